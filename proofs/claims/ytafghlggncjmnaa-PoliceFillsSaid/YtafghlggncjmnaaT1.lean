import Derived.Test.YtafghlggncjmnaaBase
namespace Go.Proofs.Ytafghlggncjmnaa
open Go.RowKit

def padd (a b : Int) : Int := if b > 4611686018427387904 - a then 4611686018427387904 else a + b

theorem padd_bd (a b : Int) (ha : 0 ≤ a) (hb : 0 ≤ b) (ha' : a ≤ 4611686018427387904) : 0 ≤ padd a b ∧ padd a b ≤ 4611686018427387904 := by
  unfold padd; split <;> omega

theorem add_any (a b : Int) (w : World) (ha : 0 ≤ a) (ha' : a ≤ 4611686018427387904) (hb : 0 ≤ b) (hb' : b ≤ 9223372036854775807) :
    Calls Try.prog 16 #[.int .i64 a, .int .i64 b] w fun e w' => e = .returned (.int .i64 (padd a b)) ∧ w = w' := by
  go_enter Try.func16, Try.ntmps16
  go_wp2
  · go_ret
    exact ⟨rint (by rw [padd, if_pos (by omega)]), rfl⟩
  · go_ret
    exact ⟨rint (by rw [padd, if_neg (by omega)]), rfl⟩

theorem most_any (a b : Int) (w : World) (ha : 0 ≤ a) (ha' : a ≤ 4611686018427387904) (hb : 0 ≤ b) (hb' : b ≤ 9223372036854775807) :
    Calls Try.prog 17 #[.int .i64 a, .int .i64 b] w fun e w' => e = .returned (.int .i64 (padd a b)) ∧ w = w' := by
  go_enter Try.func17, Try.ntmps17
  go_wp2
  · go_ret
    exact ⟨rint (by rw [padd, if_pos (by omega)]), rfl⟩
  · go_ret
    exact ⟨rint (by rw [padd, if_neg (by omega)]), rfl⟩

/-- A bucket of type T at block b: rate, burst, left, passed, held. -/
structure Bk where
  r : Int
  u : Int
  l : Int
  p : Int
  h : Int

def Bk.cs (s : Bk) : Array Value := #[.int .i64 s.r, .int .i64 s.u, .int .i64 s.l, .int .i64 s.p, .int .i64 s.h]

structure Bk.ok (s : Bk) : Prop where
  r0 : 0 ≤ s.r
  r1 : s.r ≤ 1000000
  l0 : 0 ≤ s.l
  l1 : s.l ≤ s.u
  u1 : s.u ≤ 1000000000
  p0 : 0 ≤ s.p
  p1 : s.p ≤ 4611686018427387904
  h0 : 0 ≤ s.h
  h1 : s.h ≤ 4611686018427387904

def Bk.tick (s : Bk) (n : Int) : Bk := { s with l := if 0 < n then min s.u (s.l + s.r * n) else s.l }
def Bk.passes (s : Bk) (n : Int) : Bool := decide (0 ≤ n ∧ n ≤ s.l)
def Bk.pass (s : Bk) (n : Int) : Bk :=
  if n < 0 then s else if s.l < n then { s with h := padd s.h n } else { s with l := s.l - n, p := padd s.p n }

theorem left_any (b : Nat) (s : Bk) (w : World) (h : Blk w b s.cs 42) :
    Calls Try.prog 15 #[.pointer (some ⟨b, 0, none⟩)] w fun e w' => e = .returned (.int .i64 s.l) ∧ w = w' := by
  have c2 := h.c 2 (.int .i64 s.l) rfl
  go_enter Try.func15, Try.ntmps15
  go_wp2
  go_ret
  exact ⟨rfl, rfl⟩

theorem left_nil (w : World) :
    Calls Try.prog 15 #[.pointer none] w fun e w' => e = .returned (.int .i64 0) ∧ w = w' := by
  go_enter Try.func15, Try.ntmps15
  go_wp2
  go_ret
  exact ⟨rfl, rfl⟩

theorem counts_any (b : Nat) (s : Bk) (w : World) (h : Blk w b s.cs 42) :
    Calls Try.prog 14 #[.pointer (some ⟨b, 0, none⟩)] w fun e w' => e = .returned (.tuple #[.int .i64 s.p, .int .i64 s.h]) ∧ ∃ n, w' = w.drewN n := by
  have c3 := h.c 3 (.int .i64 s.p) rfl
  have c4 := h.c 4 (.int .i64 s.h) rfl
  go_enter Try.func14, Try.ntmps14
  go_wp2
  go_quiet (fail)
  go_wp2
  go_ret2
  exact ⟨rfl, _, rfl⟩

theorem rN (w : World) : w = w.drewN 0 := rfl

theorem tick_any (b : Nat) (s : Bk) (n : Int) (w : World) (hB : Blk w b s.cs 42) (ok : s.ok)
  (n0 : -9223372036854775808 ≤ n) (n1 : n ≤ 9223372036854775807) :
    Calls Try.prog 10 #[.pointer (some ⟨b, 0, none⟩), .int .i64 n] w fun e w' => e = .returned (.tuple #[]) ∧
      Blk w' b (s.tick n).cs 42 ∧ Fr [b] w w' := by
  obtain ⟨r, u, l, p, h⟩ := s
  obtain ⟨r0, r1, l0, l1, u1, p0, p1, h0, h1⟩ := ok
  simp only at r0 r1 l0 l1 u1 p0 p1 h0 h1
  have c0 := hB.c 0 (.int .i64 r) rfl
  have c1 := hB.c 1 (.int .i64 u) rfl
  have c2 := hB.c 2 (.int .i64 l) rfl
  have f2 := hB.fz 2
  by_cases hn : n < 1
  · have e : Bk.tick ⟨r, u, l, p, h⟩ n = ⟨r, u, l, p, h⟩ := by rw [Bk.tick, if_neg (by omega)]
    rw [e]; clear e
    go_enter Try.func10, Try.ntmps10
    go_wp2
    refine rvoid rfl rfl ?_
    exact ⟨rfl, hB, Fr.refl _ _⟩
  · by_cases hr : 0 < r
    · have hq : 0 ≤ (u - l) / r := Int.ediv_nonneg (by omega) (by omega)
      have hq' : (u - l) / r ≤ u - l := Int.ediv_le_self _ (by omega)
      by_cases hg : (u - l) / r < n
      · have hm : u - l < r * n := by
          have := Int.lt_mul_of_ediv_lt hr hg
          rw [Int.mul_comm]; exact this
        have e : Bk.tick ⟨r, u, l, p, h⟩ n = ⟨r, u, u, p, h⟩ := by
          rw [Bk.tick, if_pos (by omega)]; simp only [Bk.mk.injEq, true_and, and_true]; omega
        rw [e]; clear e hm
        go_enter Try.func10, Try.ntmps10
        go_wp2
        go_quiet (fail)
        go_wp2
        refine rvoid rfl rfl ?_
        exact ⟨rfl, (hB.drewN _).set 2 _, ((Fr.refl _ _).drewN _).setCell (by simp) _⟩
      · have hm : r * n ≤ u - l := by
          have := Int.mul_le_of_le_ediv hr (Int.not_lt.1 hg)
          rw [Int.mul_comm]; exact this
        have hm0 : 0 ≤ r * n := Int.mul_nonneg (by omega) (by omega)
        have e : Bk.tick ⟨r, u, l, p, h⟩ n = ⟨r, u, l + r * n, p, h⟩ := by
          rw [Bk.tick, if_pos (by omega)]; simp only [Bk.mk.injEq, true_and, and_true]; omega
        have e2 : wrap64 (l + wrap64 (r * n)) = l + r * n := by rw [IntWalk.wrap64_in (r * n) (by omega), IntWalk.wrap64_in _ (by omega)]
        rw [e]; clear e
        have E2 := Lib.hid e2
        clear e2 hm hm0
        go_enter Try.func10, Try.ntmps10
        go_wp2
        go_quiet (fail)
        go_wp2
        go_region
        go_end0
        rw [E2.out]
        exact ⟨rfl, (hB.drewN _).set 2 _, ((Fr.refl _ _).drewN _).setCell (by simp) _⟩
    · have hr0 : r = 0 := by omega
      subst hr0
      have e : Bk.tick ⟨0, u, l, p, h⟩ n = ⟨0, u, l, p, h⟩ := by
        rw [Bk.tick, if_pos (by omega)]; simp only [Bk.mk.injEq, true_and, and_true]; omega
      rw [e]; clear e hr
      go_enter Try.func10, Try.ntmps10
      go_wp2
      go_quiet (fail)
      go_wp2
      go_region
      go_end0
      exact ⟨rfl, (hB.drewN _).set 2 _, ((Fr.refl _ _).drewN _).setCell (by simp) _⟩

theorem pass_any (b : Nat) (s : Bk) (n : Int) (w : World) (hB : Blk w b s.cs 42) (ok : s.ok)
  (n0 : -9223372036854775808 ≤ n) (n1 : n ≤ 9223372036854775807) :
    Calls Try.prog 12 #[.pointer (some ⟨b, 0, none⟩), .int .i64 n] w fun e w' => e = .returned (.bool (s.passes n)) ∧
      Blk w' b (s.pass n).cs 42 ∧ Fr [b] w w' := by
  obtain ⟨r, u, l, p, h⟩ := s
  obtain ⟨r0, r1, l0, l1, u1, p0, p1, h0, h1⟩ := ok
  simp only at r0 r1 l0 l1 u1 p0 p1 h0 h1
  have c2 := hB.c 2 (.int .i64 l) rfl
  have c3 := hB.c 3 (.int .i64 p) rfl
  have c4 := hB.c 4 (.int .i64 h) rfl
  have f2 := hB.fz 2
  have f3 := hB.fz 3
  have f4 := hB.fz 4
  by_cases hn : n < 0
  · have e : Bk.pass ⟨r, u, l, p, h⟩ n = ⟨r, u, l, p, h⟩ := by rw [Bk.pass, if_pos hn]
    have e1 : Bk.passes ⟨r, u, l, p, h⟩ n = false := by simp [Bk.passes]; omega
    rw [e, e1]; clear e e1
    go_enter Try.func12, Try.ntmps12
    go_wp2
    go_ret
    exact ⟨rfl, hB, Fr.refl _ _⟩
  · by_cases hl : l < n
    · have e : Bk.pass ⟨r, u, l, p, h⟩ n = ⟨r, u, l, p, padd h n⟩ := by rw [Bk.pass, if_neg hn, if_pos hl]
      have e1 : Bk.passes ⟨r, u, l, p, h⟩ n = false := by simp [Bk.passes]; omega
      rw [e, e1]; clear e e1
      go_enter Try.func12, Try.ntmps12
      go_wp2_with (go_at_call 16; refine (add_any _ _ _ h0 h1 (by omega) n1).mono ?_; rintro e w' ⟨rfl, rfl⟩)
      go_ret
      exact ⟨rfl, hB.set 4 _, (Fr.refl _ _).setCell (by simp) _⟩
    · have e : Bk.pass ⟨r, u, l, p, h⟩ n = ⟨r, u, l - n, padd p n, h⟩ := by rw [Bk.pass, if_neg hn, if_neg hl]
      have e1 : Bk.passes ⟨r, u, l, p, h⟩ n = true := by simp [Bk.passes]; omega
      rw [e, e1]; clear e e1
      go_enter Try.func12, Try.ntmps12
      go_wp2_with (go_at_call 16; refine (add_any _ _ _ p0 p1 (by omega) n1).mono ?_; rintro e w' ⟨rfl, rfl⟩)
      go_ret
      exact ⟨rfl, (hB.set 2 _).set 3 _, ((Fr.refl _ _).setCell (by simp) _).setCell (by simp) _⟩

theorem pass_nil (n : Int) (w : World) :
    Calls Try.prog 12 #[.pointer none, .int .i64 n] w fun e w' => e = .returned (.bool (decide (n = 0))) ∧ w = w' := by
  go_enter Try.func12, Try.ntmps12
  go_wp2
  go_ret
  exact ⟨rbool (by rw [Bool.eq_iff_iff]; simp), rfl⟩

theorem tick_nil (n : Int) (w : World) :
    Calls Try.prog 10 #[.pointer none, .int .i64 n] w fun e w' => e = .returned (.tuple #[]) ∧ w = w' := by
  go_enter Try.func10, Try.ntmps10
  go_wp2
  refine rvoid rfl rfl ?_
  exact ⟨rfl, rfl⟩

theorem rpass_any (b : Nat) (s : Bk) (n : Int) (w : World) (hB : Blk w b s.cs 39) (ok : s.ok)
  (n0 : -9223372036854775808 ≤ n) (n1 : n ≤ 9223372036854775807) :
    Calls Try.prog 13 #[.pointer (some ⟨b, 0, none⟩), .int .i64 n] w fun e w' => e = .returned (.bool (s.passes n)) ∧
      Blk w' b (s.pass n).cs 39 ∧ Fr [b] w w' := by
  obtain ⟨r, u, l, p, h⟩ := s
  obtain ⟨r0, r1, l0, l1, u1, p0, p1, h0, h1⟩ := ok
  simp only at r0 r1 l0 l1 u1 p0 p1 h0 h1
  have c2 := hB.c 2 (.int .i64 l) rfl
  have c3 := hB.c 3 (.int .i64 p) rfl
  have c4 := hB.c 4 (.int .i64 h) rfl
  have f2 := hB.fz 2
  have f3 := hB.fz 3
  have f4 := hB.fz 4
  by_cases hn : n < 0
  · have e : Bk.pass ⟨r, u, l, p, h⟩ n = ⟨r, u, l, p, h⟩ := by rw [Bk.pass, if_pos hn]
    have e1 : Bk.passes ⟨r, u, l, p, h⟩ n = false := by simp [Bk.passes]; omega
    rw [e, e1]; clear e e1
    go_enter Try.func13, Try.ntmps13
    go_wp2
    go_ret
    exact ⟨rfl, hB, Fr.refl _ _⟩
  · by_cases hl : l < n
    · have e : Bk.pass ⟨r, u, l, p, h⟩ n = ⟨r, u, l, p, padd h n⟩ := by rw [Bk.pass, if_neg hn, if_pos hl]
      have e1 : Bk.passes ⟨r, u, l, p, h⟩ n = false := by simp [Bk.passes]; omega
      rw [e, e1]; clear e e1
      go_enter Try.func13, Try.ntmps13
      go_wp2_with (go_at_call 17; refine (most_any _ _ _ h0 h1 (by omega) n1).mono ?_; rintro e w' ⟨rfl, rfl⟩)
      go_ret
      exact ⟨rfl, hB.set 4 _, (Fr.refl _ _).setCell (by simp) _⟩
    · have e : Bk.pass ⟨r, u, l, p, h⟩ n = ⟨r, u, l - n, padd p n, h⟩ := by rw [Bk.pass, if_neg hn, if_neg hl]
      have e1 : Bk.passes ⟨r, u, l, p, h⟩ n = true := by simp [Bk.passes]; omega
      rw [e, e1]; clear e e1
      go_enter Try.func13, Try.ntmps13
      go_wp2_with (go_at_call 17; refine (most_any _ _ _ p0 p1 (by omega) n1).mono ?_; rintro e w' ⟨rfl, rfl⟩)
      go_ret
      exact ⟨rfl, (hB.set 2 _).set 3 _, ((Fr.refl _ _).setCell (by simp) _).setCell (by simp) _⟩

def argOk (r u : Int) : Bool := decide (0 ≤ r ∧ r ≤ 1000000 ∧ 0 ≤ u ∧ u ≤ 1000000000)

theorem new_ok (r u : Int) (w : World) (h : argOk r u = true) :
    Calls Try.prog 8 #[.int .i64 r, .int .i64 u] w fun e w' => e = .returned (.tuple #[.pointer (some ⟨w.heap.size, 0, none⟩), .int .i64 0]) ∧ w' = w.alloc (.cells (Bk.cs ⟨r, u, u, 0, 0⟩) 42 (0, 0)) := by
  simp only [argOk, decide_eq_true_eq] at h
  obtain ⟨h0, h1, h2, h3⟩ := h
  go_enter Try.func8, Try.ntmps8
  go_wp2
  go_ret2
  exact ⟨rfl, rfl⟩

theorem new_no (r u : Int) (w : World) (h : argOk r u = false) :
    Calls Try.prog 8 #[.int .i64 r, .int .i64 u] w fun e w' => e = .returned (.tuple #[.pointer none, .int .i64 1]) ∧ w = w' := by
  simp only [argOk, decide_eq_false_iff_not] at h
  by_cases a : r < 0
  · go_enter Try.func8, Try.ntmps8
    go_wp2
    go_ret2
    exact ⟨rfl, rfl⟩
  by_cases b : 1000000 < r
  · go_enter Try.func8, Try.ntmps8
    go_wp2
    go_ret2
    exact ⟨rfl, rfl⟩
  by_cases c : u < 0
  · go_enter Try.func8, Try.ntmps8
    go_wp2
    go_ret2
    exact ⟨rfl, rfl⟩
  by_cases d : 1000000000 < u
  · go_enter Try.func8, Try.ntmps8
    go_wp2
    go_ret2
    exact ⟨rfl, rfl⟩
  · omega

theorem rnew_ok (r u : Int) (w : World) (h : argOk r u = true) :
    Calls Try.prog 9 #[.int .i64 r, .int .i64 u] w fun e w' => e = .returned (.tuple #[.pointer (some ⟨w.heap.size, 0, none⟩), .int .i64 0]) ∧ w' = w.alloc (.cells (Bk.cs ⟨r, u, u, 0, 0⟩) 39 (0, 0)) := by
  simp only [argOk, decide_eq_true_eq] at h
  obtain ⟨h0, h1, h2, h3⟩ := h
  go_enter Try.func9, Try.ntmps9
  go_wp2
  go_ret2
  exact ⟨rfl, rfl⟩

theorem rnew_no (r u : Int) (w : World) (h : argOk r u = false) :
    Calls Try.prog 9 #[.int .i64 r, .int .i64 u] w fun e w' => e = .returned (.tuple #[.pointer none, .int .i64 1]) ∧ w = w' := by
  simp only [argOk, decide_eq_false_iff_not] at h
  by_cases a : r < 0
  · go_enter Try.func9, Try.ntmps9
    go_wp2
    go_ret2
    exact ⟨rfl, rfl⟩
  by_cases b : 1000000 < r
  · go_enter Try.func9, Try.ntmps9
    go_wp2
    go_ret2
    exact ⟨rfl, rfl⟩
  by_cases c : u < 0
  · go_enter Try.func9, Try.ntmps9
    go_wp2
    go_ret2
    exact ⟨rfl, rfl⟩
  by_cases d : 1000000000 < u
  · go_enter Try.func9, Try.ntmps9
    go_wp2
    go_ret2
    exact ⟨rfl, rfl⟩
  · omega
end Go.Proofs.Ytafghlggncjmnaa
