import Derived.Test.YtafghlggncjmnaaT4
namespace Go.Proofs.Ytafghlggncjmnaa
open Go.RowKit
set_option linter.unusedVariables false

set_option maxHeartbeats 4000000 in
theorem policeBound_walk (w : World) (r : Int) (r0 : -9223372036854775808 ≤ r) (r1 : r ≤ 9223372036854775807) (u : Int) (u0 : -9223372036854775808 ≤ u) (u1 : u ≤ 9223372036854775807)
    (a : Option Addr) (len cap : Nat) (l : List (Int × Int)) (hl : IsPairs w a len cap l) :
    Calls Try.prog 4 #[.int .i64 r, .int .i64 u, .slice a len cap] w fun e w' => e = .returned (.bool true) ∧ Below w.heap.size w w' := by
  obtain ⟨hlen, hcap, hmax, hcell⟩ := hl
  unfold maxLen at hmax
  cases hA : argOk r u with
  | false =>
    have HA := Lib.hid hA
    have Hlen := Lib.hid hlen
    clear hA hlen
    go_enter Try.func4, Try.ntmps4
    go_wp2_with fail
    refine (new_no r u _ HA.out).mono ?_
    rintro e w1 ⟨rfl, rfl⟩
    go_wp2_with fail
    refine (alive_any _).mono ?_
    rintro e w1 ⟨rfl, hF⟩
    go_wp2
    go_ret
    exact ⟨rfl, hF.below (Nat.le_refl _) (by simp)⟩
  | true =>
    have ok : Bk.ok ⟨r, u, u, 0, 0⟩ := Bk.ok_new hA
    have HA := Lib.hid hA
    have Hlen := Lib.hid hlen
    clear hA hlen
    by_cases h300 : 300 < len
    · go_enter Try.func4, Try.ntmps4
      go_wp2_with fail
      refine (new_any r u _ HA.out).mono ?_
      rintro e w1 ⟨b, rfl, ha, hB, hF1⟩
      go_wp2_with fail
      refine (alive_any _).mono ?_
      rintro e w1 ⟨rfl, hF⟩
      go_wp2
      go_ret
      exact ⟨rfl, (hF1.trans hF).below (Nat.le_refl _) (by simp)⟩
    · go_enter Try.func4, Try.ntmps4
      go_wp2_with fail
      refine (new_any r u _ HA.out).mono ?_
      rintro e w1 ⟨b, rfl, hb, hB, hF1⟩
      go_wp2_with fail
      go_loopw [9, 10, 11] (fun pv tv iv wr => ∃ (k : Nat) (p t : Int) (s : Bk), iv = .int .i64 k ∧ pv = .int .i64 p ∧ tv = .int .i64 t ∧ k ≤ len ∧ s.ok ∧ Hid (s.r = r) ∧ Hid (s.u = u) ∧ Blk wr b s.cs 42 ∧ Fr [] w wr ∧
          0 ≤ p ∧ 0 ≤ t ∧ t ≤ k * 1000000000 ∧ p ≤ k * 1000000000 ∧ p + s.l ≤ u + r * t) (fun _ _ iv _ => len - (intOf iv).toNat)
      case atStart => exact ⟨0, 0, 0, _, rfl, rfl, rfl, Nat.zero_le _, ok, rfl, rfl, hB, hF1, by omega, by omega, by omega, by omega, by simp⟩
      case round =>
        obtain ⟨k, p, t, s, rfl, rfl, rfl, hk, oks, Hr, Hu, hB, hF, p0, t0, t1, p1, hinv⟩ := hrel
        by_cases hkl : k < len
        · obtain ⟨bb, off, rfl, hbb, hc⟩ := hcell.resolve_left (by omega)
          obtain ⟨c0, c1, x0, x1⟩ := hc k (by rw [Hlen.out]; exact hkl)
          obtain ⟨⟨kd, n⟩, hn⟩ : ∃ q : Int × Int, l[k]'(by rw [Hlen.out]; exact hkl) = q := ⟨_, rfl⟩
          rw [hn] at c0 c1 x0 x1
          clear hc hcell hn
          simp only at c0 c1 x0 x1
          have d0 : wr.cell? ⟨bb, off + k * 2, none⟩ = some (.int .i64 kd) := by
            rw [← c0]; exact World.cell?_of_block (hF.block bb hbb (by simp))
          have d1 : wr.cell? ⟨bb, off + k * 2 + 1, none⟩ = some (.int .i64 n) := by
            rw [← c1]; exact World.cell?_of_block (hF.block bb hbb (by simp))
          clear c0 c1
          obtain ⟨n0, n1⟩ := x1
          by_cases hbig : 1000000000 < n
          · go_wp2_with fail
            refine (alive_any _).mono ?_
            rintro e w1 ⟨rfl, hF1⟩
            go_wp2
            go_ret
            exact ⟨rfl, (hF.trans hF1).below (Nat.le_refl _) (by simp)⟩
          · by_cases hkd : kd = 2
            · subst hkd
              by_cases hneg : n < 0
              · go_wp2_with fail
                have e2 : s.tick n = s := by unfold Bk.tick; rw [if_neg (by omega)]
                refine (tick_any b s n _ hB oks n0 n1).mono ?_
                rw [e2]
                clear e2
                rintro e w2 ⟨rfl, hB2, hF2⟩
                obtain ⟨s2, rfl⟩ : ∃ s2, s = s2 := ⟨_, rfl⟩
                have f2 : Fr [] w w2 := hF.sub hF2 (by simp; omega)
                have ok2 := oks
                have su := Hu.out
                have sr := Hr.out
                have hi2 := hinv
                have l0 := ok2.l0
                have l1 := ok2.l1
                rw [su] at l1
                have hr0 : 0 ≤ r := by have := ok2.r0; rw [sr] at this; exact this
                have hr1 : r ≤ 1000000 := by have := ok2.r1; rw [sr] at this; exact this
                have hu1 : u ≤ 1000000000 := by have := ok2.u1; rw [su] at this; exact this
                have Hu2 := Lib.hid su
                have Hr2 := Lib.hid sr
                clear su sr hB hF hF2
                by_cases ht : t ≤ 1000000000
                · have m0 : 0 ≤ r * (t) := Int.mul_nonneg hr0 (by omega)
                  have m1 : r * (t) ≤ 1000000 * 1000000000 := Int.mul_le_mul hr1 ht (by omega) (by omega)
                  have em : wrap64 (u + wrap64 (r * (t))) = u + r * (t) := by rw [IntWalk.wrap64_in (r * (t)) (by omega), IntWalk.wrap64_in _ (by omega)]
                  go_wp2_with fail
                  refine (left_any _ _ _ hB2).mono ?_
                  rintro e w3 ⟨rfl, rfl⟩
                  go_wp2_with fail
                  refine (left_any _ _ _ hB2).mono ?_
                  rintro e w3 ⟨rfl, rfl⟩
                  go_wp2
                  go_roundw
                  case rel => exact ⟨k + 1, p, t, s, by go_num, rfl, rfl, by omega, ok2, Hr2, Hu2, hB2, f2, by omega, by omega, by omega, by omega, hi2⟩
                  case measure => simp [intOf]; omega
                · have m0 : 0 ≤ r * 1000000000 := by omega
                  go_wp2_with fail
                  refine (left_any _ _ _ hB2).mono ?_
                  rintro e w3 ⟨rfl, rfl⟩
                  go_wp2_with fail
                  refine (left_any _ _ _ hB2).mono ?_
                  rintro e w3 ⟨rfl, rfl⟩
                  go_wp2
                  all_goals
                    go_roundw
                    case rel => exact ⟨k + 1, p, t, s, by go_num, rfl, rfl, by omega, ok2, Hr2, Hu2, hB2, f2, by omega, by omega, by omega, by omega, hi2⟩
                    case measure => simp [intOf]; omega
              · go_wp2_with fail
                refine (tick_any b s n _ hB oks n0 n1).mono ?_
                rintro e w2 ⟨rfl, hB2, hF2⟩
                obtain ⟨s2, hs2⟩ : ∃ s2, s.tick n = s2 := ⟨_, rfl⟩
                rw [hs2] at hB2
                have f2 : Fr [] w w2 := hF.sub hF2 (by simp; omega)
                have ok2 : s2.ok := hs2 ▸ Bk.ok_tick oks
                have su : s2.u = u := by rw [← hs2]; exact Hu.out
                have sr : s2.r = r := by rw [← hs2]; exact Hr.out
                have hi2 : p + s2.l ≤ u + r * (t + n) := by
                  have hr0 : 0 ≤ r := by have := oks.r0; rw [Hr.out] at this; exact this
                  have e : r * (t + n) = r * t + r * n := Int.mul_add ..
                  have hq : 0 ≤ r * n := Int.mul_nonneg hr0 (by omega)
                  have h1 : s2.l ≤ s.l + r * n := by
                    rw [← hs2]; simp only [Bk.tick, Hr.out]
                    split <;> omega
                  omega
                clear hs2
                have l0 := ok2.l0
                have l1 := ok2.l1
                rw [su] at l1
                have hr0 : 0 ≤ r := by have := ok2.r0; rw [sr] at this; exact this
                have hr1 : r ≤ 1000000 := by have := ok2.r1; rw [sr] at this; exact this
                have hu1 : u ≤ 1000000000 := by have := ok2.u1; rw [su] at this; exact this
                have Hu2 := Lib.hid su
                have Hr2 := Lib.hid sr
                clear su sr hB hF hF2
                by_cases ht : (t + n) ≤ 1000000000
                · have m0 : 0 ≤ r * ((t + n)) := Int.mul_nonneg hr0 (by omega)
                  have m1 : r * ((t + n)) ≤ 1000000 * 1000000000 := Int.mul_le_mul hr1 ht (by omega) (by omega)
                  have em : wrap64 (u + wrap64 (r * (t + n))) = u + r * (t + n) := by rw [IntWalk.wrap64_in (r * (t + n)) (by omega), IntWalk.wrap64_in _ (by omega)]
                  go_wp2_with fail
                  refine (left_any _ _ _ hB2).mono ?_
                  rintro e w3 ⟨rfl, rfl⟩
                  go_wp2_with fail
                  refine (left_any _ _ _ hB2).mono ?_
                  rintro e w3 ⟨rfl, rfl⟩
                  go_wp2
                  go_roundw
                  case rel => exact ⟨k + 1, p, (t + n), s2, by go_num, rfl, rfl, by omega, ok2, Hr2, Hu2, hB2, f2, by omega, by omega, by omega, by omega, hi2⟩
                  case measure => simp [intOf]; omega
                · have m0 : 0 ≤ r * 1000000000 := by omega
                  go_wp2_with fail
                  refine (left_any _ _ _ hB2).mono ?_
                  rintro e w3 ⟨rfl, rfl⟩
                  go_wp2_with fail
                  refine (left_any _ _ _ hB2).mono ?_
                  rintro e w3 ⟨rfl, rfl⟩
                  go_wp2
                  all_goals
                    go_roundw
                    case rel => exact ⟨k + 1, p, (t + n), s2, by go_num, rfl, rfl, by omega, ok2, Hr2, Hu2, hB2, f2, by omega, by omega, by omega, by omega, hi2⟩
                    case measure => simp [intOf]; omega
            · have hd : (kd == 2) = false := by simpa using hkd
              cases hps : s.passes n with
              | false =>
                have hsl : (s.pass n).l = s.l := by
                  have : ¬ (0 ≤ n ∧ n ≤ s.l) := by simpa [Bk.passes] using hps
                  unfold Bk.pass
                  by_cases h1 : n < 0
                  · rw [if_pos h1]
                  · rw [if_neg h1, if_pos (by omega)]
                have Hps := Lib.hid hps
                clear hps
                go_wp2_with fail
                refine (pass_to b s _ n false _ hB oks n0 n1 Hps.out rfl).mono ?_
                rintro e w2 ⟨rfl, hB2, hF2⟩
                obtain ⟨s2, hs2⟩ : ∃ s2, s.pass n = s2 := ⟨_, rfl⟩
                rw [hs2] at hB2
                have f2 : Fr [] w w2 := hF.sub hF2 (by simp; omega)
                have ok2 : s2.ok := hs2 ▸ Bk.ok_pass oks
                have su : s2.u = u := by rw [← hs2, (pass_ru s n).2]; exact Hu.out
                have sr : s2.r = r := by rw [← hs2, (pass_ru s n).1]; exact Hr.out
                have hi2 : p + s2.l ≤ u + r * t := by rw [← hs2, hsl]; exact hinv
                clear hs2 hsl
                have l0 := ok2.l0
                have l1 := ok2.l1
                rw [su] at l1
                have hr0 : 0 ≤ r := by have := ok2.r0; rw [sr] at this; exact this
                have hr1 : r ≤ 1000000 := by have := ok2.r1; rw [sr] at this; exact this
                have hu1 : u ≤ 1000000000 := by have := ok2.u1; rw [su] at this; exact this
                have Hu2 := Lib.hid su
                have Hr2 := Lib.hid sr
                clear su sr hB hF hF2
                by_cases ht : t ≤ 1000000000
                · have m0 : 0 ≤ r * (t) := Int.mul_nonneg hr0 (by omega)
                  have m1 : r * (t) ≤ 1000000 * 1000000000 := Int.mul_le_mul hr1 ht (by omega) (by omega)
                  have em : wrap64 (u + wrap64 (r * (t))) = u + r * (t) := by rw [IntWalk.wrap64_in (r * (t)) (by omega), IntWalk.wrap64_in _ (by omega)]
                  go_wp2_with fail
                  refine (left_any _ _ _ hB2).mono ?_
                  rintro e w3 ⟨rfl, rfl⟩
                  go_wp2_with fail
                  refine (left_any _ _ _ hB2).mono ?_
                  rintro e w3 ⟨rfl, rfl⟩
                  go_wp2
                  go_roundw
                  case rel => exact ⟨k + 1, p, t, s2, by go_num, rfl, rfl, by omega, ok2, Hr2, Hu2, hB2, f2, by omega, by omega, by omega, by omega, hi2⟩
                  case measure => simp [intOf]; omega
                · have m0 : 0 ≤ r * 1000000000 := by omega
                  go_wp2_with fail
                  refine (left_any _ _ _ hB2).mono ?_
                  rintro e w3 ⟨rfl, rfl⟩
                  go_wp2_with fail
                  refine (left_any _ _ _ hB2).mono ?_
                  rintro e w3 ⟨rfl, rfl⟩
                  go_wp2
                  all_goals
                    go_roundw
                    case rel => exact ⟨k + 1, p, t, s2, by go_num, rfl, rfl, by omega, ok2, Hr2, Hu2, hB2, f2, by omega, by omega, by omega, by omega, hi2⟩
                    case measure => simp [intOf]; omega
              | true =>
                have hpn : 0 ≤ n ∧ n ≤ s.l := by simpa [Bk.passes] using hps
                have hsl : (s.pass n).l = s.l - n := by
                  unfold Bk.pass
                  rw [if_neg (by omega), if_neg (by omega)]
                have Hps := Lib.hid hps
                clear hps
                obtain ⟨hn0, hnl⟩ := hpn
                go_wp2_with fail
                refine (pass_to b s _ n true _ hB oks n0 n1 Hps.out rfl).mono ?_
                rintro e w2 ⟨rfl, hB2, hF2⟩
                obtain ⟨s2, hs2⟩ : ∃ s2, s.pass n = s2 := ⟨_, rfl⟩
                rw [hs2] at hB2
                have f2 : Fr [] w w2 := hF.sub hF2 (by simp; omega)
                have ok2 : s2.ok := hs2 ▸ Bk.ok_pass oks
                have su : s2.u = u := by rw [← hs2, (pass_ru s n).2]; exact Hu.out
                have sr : s2.r = r := by rw [← hs2, (pass_ru s n).1]; exact Hr.out
                have hi2 : (p + n) + s2.l ≤ u + r * t := by rw [← hs2, hsl]; omega
                clear hs2 hsl
                have l0 := ok2.l0
                have l1 := ok2.l1
                rw [su] at l1
                have hr0 : 0 ≤ r := by have := ok2.r0; rw [sr] at this; exact this
                have hr1 : r ≤ 1000000 := by have := ok2.r1; rw [sr] at this; exact this
                have hu1 : u ≤ 1000000000 := by have := ok2.u1; rw [su] at this; exact this
                have Hu2 := Lib.hid su
                have Hr2 := Lib.hid sr
                clear su sr hB hF hF2
                by_cases ht : t ≤ 1000000000
                · have m0 : 0 ≤ r * (t) := Int.mul_nonneg hr0 (by omega)
                  have m1 : r * (t) ≤ 1000000 * 1000000000 := Int.mul_le_mul hr1 ht (by omega) (by omega)
                  have em : wrap64 (u + wrap64 (r * (t))) = u + r * (t) := by rw [IntWalk.wrap64_in (r * (t)) (by omega), IntWalk.wrap64_in _ (by omega)]
                  go_wp2_with fail
                  refine (left_any _ _ _ hB2).mono ?_
                  rintro e w3 ⟨rfl, rfl⟩
                  go_wp2_with fail
                  refine (left_any _ _ _ hB2).mono ?_
                  rintro e w3 ⟨rfl, rfl⟩
                  go_wp2
                  go_roundw
                  case rel => exact ⟨k + 1, (p + n), t, s2, by go_num, rfl, rfl, by omega, ok2, Hr2, Hu2, hB2, f2, by omega, by omega, by omega, by omega, hi2⟩
                  case measure => simp [intOf]; omega
                · have m0 : 0 ≤ r * 1000000000 := by omega
                  go_wp2_with fail
                  refine (left_any _ _ _ hB2).mono ?_
                  rintro e w3 ⟨rfl, rfl⟩
                  go_wp2_with fail
                  refine (left_any _ _ _ hB2).mono ?_
                  rintro e w3 ⟨rfl, rfl⟩
                  go_wp2
                  all_goals
                    go_roundw
                    case rel => exact ⟨k + 1, (p + n), t, s2, by go_num, rfl, rfl, by omega, ok2, Hr2, Hu2, hB2, f2, by omega, by omega, by omega, by omega, hi2⟩
                    case measure => simp [intOf]; omega
        · have : k = len := by omega
          subst this
          go_wp2_with fail
          refine (alive_any _).mono ?_
          rintro e w1 ⟨rfl, hF1⟩
          go_wp2
          go_ret
          exact ⟨rfl, (hF.trans hF1).below (Nat.le_refl _) (by simp)⟩
end Go.Proofs.Ytafghlggncjmnaa
