/- tollgateref1.Digits. -/
import Derived.Test.YtnenmgankgadcaaDigits
namespace Go.Proofs.Ytnenmgankgadcaa
open Go.RowKit
set_option linter.unusedVariables false

theorem oneCells (xs : List Int) : ∀ u ∈ xs.map (Value.int .u8), u.oneCell' = true := by
  intro u hu
  obtain ⟨x, _, rfl⟩ := List.mem_map.1 hu
  rfl
theorem owned_slice {w : World} {base : Nat} {e : TypeId} {size n : Nat} {v : Value} {xs : List Value} (h : w.ownsRow base e size v n xs) : ∃ A c, v = .slice A n c := by
  rcases h.2 with ⟨rfl, rfl⟩ | ⟨g, cap, cur, rfl, _⟩
  · exact ⟨none, 0, rfl⟩
  · exact ⟨_, cap, rfl⟩

theorem nd_le (f : Nat) (v : Int) (h0 : 0 ≤ v) (h : v < 10 ^ f) (hf : 1 ≤ f) : nd f v ≤ f := by
  induction f generalizing v with
  | zero => omega
  | succ f ih =>
    unfold nd
    split
    · omega
    · rename_i hv
      by_cases hf0 : f = 0
      · subst hf0; simp at h; omega
      · have := ih (v / 10) (by omega) (by rw [Int.pow_succ] at h; omega) (by omega)
        omega
theorem dg_few26 (v : Int) (h : v ≤ 9223372036854775808) (h0 : 0 ≤ v) : nd 25 v ≤ 25 := nd_le 25 v h0 (by omega) (by omega)

set_option maxRecDepth 100000 in
set_option maxHeartbeats 4000000 in
theorem rdigits_any (v : Int) (w : World) (v0 : -9223372036854775808 ≤ v) (v1 : v ≤ 9223372036854775807) :
    Calls Try.prog 30 #[.int .i64 v] w fun e w' => e = .returned (.string (B (digL v))) ∧ Fr [] w w' := by
  obtain ⟨i0, hi, hz0, hz1, hz2⟩ := info_parts infoB
  by_cases hv0 : v = 0
  · subst hv0
    have e : digL 0 = [48] := by decide +kernel
    rw [e]; clear e
    go_enter Try.func30, Try.ntmps30
    go_wp2
    go_ret
    exact ⟨rfl, Fr.refl _ _⟩
  have hvb : (v == 0) = false := by rw [beq_eq_false_iff_ne]; exact hv0
  obtain ⟨N, hN⟩ : ∃ N, absI v = N := ⟨_, rfl⟩
  by_cases hneg : v < 0
  · have hN' : N = -v := by rw [← hN]; unfold absI; rw [if_pos hneg]
    have hN0 : 0 ≤ N := by omega
    have hN1 : N ≤ 9223372036854775808 := by omega
    have hdig : digL v = bytesOf (45 :: dgI (nd 25 N) N) := by unfold digL digI; rw [hN, if_pos hneg]; rfl
    have Hdig := Lib.hid hdig
    have hNv : -N = v := by omega
    clear hN hN' hdig hv0
    go_enter Try.func30, Try.ntmps30
    go_wp2
    go_loopw [3, 4] (fun bv wv wr => ∃ j : Nat, wv = .int .i64 (-(N / 10 ^ j)) ∧ wr.ownsRow w.heap.size 5 1 bv j ((dgI j N).map (Value.int .u8)) ∧ Fr [] w wr ∧ Hid (j = 0 ∨ N / 10 ^ j ≠ 0 ∨ N / 10 ^ (j - 1) ≠ 0)) (fun _ wv _ => (intOf wv).natAbs)
    case atStart => exact ⟨0, by simp [hNv], World.ownsRow_nil _ _ _ _, Fr.refl _ _, .inl rfl⟩
    case round =>
      obtain ⟨j, rfl, hown, hF, hnz⟩ := hrel
      obtain ⟨A, c, rfl⟩ := owned_slice hown
      obtain ⟨x0, x1⟩ := div10_bd N j ⟨hN0, hN1⟩
      have hds := div10_succ N j
      have hcons := dgI_cons j N
      obtain ⟨x, hx⟩ : ∃ x, N / 10 ^ j = x := ⟨_, rfl⟩
      by_cases hz : x = 0
      · have hnd : nd 25 N = j := by
          have hj1 : 1 ≤ j := by
            apply Classical.byContradiction; intro hc
            have : j = 0 := by omega
            subst this
            simp at hx; omega
          have hprev : N / 10 ^ (j - 1) ≠ 0 := by
            rcases hnz.out with h | h | h
            · omega
            · exact absurd (hx.trans hz) h
            · exact h
          have h18 := dg_few N (j - 1) hN1 hN0 (.inr hprev)
          exact nd_of 25 j N hj1 (by omega) hN0 (hx.trans hz) (.inr hprev)
        have Hnd := Lib.hid hnd
        rw [hx, hz]
        clear hnd hz hx hds hcons hnz x0 x1
        have hj25 : j ≤ 25 := by have := dg_few26 N hN1 hN0; have := Hnd.out; omega
        simp only [Int.neg_zero]
        go_wp2_with (at_builtin; refine wpList_append_any _ rfl _ _ 78 rfl w.heap.size 5 i0 (.int .u8 0) 1 1 Try.underlying78 hi hz0 hz1 hz2 rfl (by decide) _ 1 [.int .u8 (45)] rfl (World.ownsRow_lit _ #[.int .u8 (45)] 1 hF.size (by unfold maxLen; omega) rfl) wr.heap.size A j c _ rfl ((Reads.of_own hown).alloc (Nat.le_refl _) _) (oneCells _) ?c3 ?c4 ?c5 ?_)
        case c3 => unfold maxLen; omega
        case c4 => omega
        case c5 => have := hF.size; simp; omega
        intro v' w1 hown' hgr' _
        have hF1 : Fr [] w w1 := (hF.alloc _).grown hgr' (fun k hk => by cases hk; exact hF.size)
        have hown1 : w1.ownsRow w.heap.size 5 1 v' (j + 1) ((45 :: dgI j N).map (Value.int .u8)) := by rw [Nat.add_comm j 1]; exact hown'
        clear hown' hgr' hown hF
        have hcv := run_str_any (P := Try.prog) Try.underlying78 Try.underlying5 Try.underlying9 (45 :: dgI j N) _ hown1
        go_wp2
        go_ret
        exact ⟨rstr (by rw [Hdig.out, Hnd.out]), hF1⟩
      · have hj18 := dg_few N j hN1 hN0 (.inr (by rw [hx]; exact hz))
        have hnb : ((-x) != 0) = true := by rw [bne_iff_ne]; omega
        rw [hx] at hds hcons x0 x1 ⊢
        have Hds := Lib.hid hds
        have Hcons := Lib.hid hcons
        have Hz := Lib.hid hz
        have Hx := Lib.hid hx
        have ht : (-x).tdiv 10 = -(x / 10) := by rw [Int.neg_tdiv, Int.tdiv_eq_ediv_of_nonneg x0]
        have hm : (-x).tmod 10 = -(x % 10) := by rw [Int.neg_tmod, Int.tmod_eq_emod_of_nonneg x0]
        clear hds hcons hz hx hnz
        by_cases hr : x % 10 = 0
        · have hrn : ¬ -(x % 10) < 0 := by omega
          go_wp2_with (at_builtin; refine wpList_append_any _ rfl _ _ 78 rfl w.heap.size 5 i0 (.int .u8 0) 1 1 Try.underlying78 hi hz0 hz1 hz2 rfl (by decide) _ 1 [.int .u8 (48)] rfl (World.ownsRow_lit _ #[.int .u8 (48)] 1 hF.size (by unfold maxLen; omega) rfl) wr.heap.size A j c _ rfl ((Reads.of_own hown).alloc (Nat.le_refl _) _) (oneCells _) ?c3 ?c4 ?c5 ?_)
          case c3 => unfold maxLen; omega
          case c4 => omega
          case c5 => have := hF.size; simp; omega
          intro v' w1 hown' hgr' _
          have hF1 : Fr [] w w1 := (hF.alloc _).grown hgr' (fun k hk => by cases hk; exact hF.size)
          have hown1 : w1.ownsRow w.heap.size 5 1 v' (j + 1) ((48 :: dgI j N).map (Value.int .u8)) := by rw [Nat.add_comm j 1]; exact hown'
          clear hown' hgr' hown hF
          go_wp2
          go_roundw
          case rel => exact ⟨j + 1, by rw [← Hds.out], by rw [Hcons.out, show (48 : Int) + x % 10 = 48 from by omega]; exact hown1, hF1, .inr (.inr (by rw [Nat.add_sub_cancel, Hx.out]; exact Hz.out))⟩
          case measure => have := Hz.out; simp only [intOf]; omega
        · have hrn : -(x % 10) < 0 := by omega
          go_wp2_with (at_builtin; refine wpList_append_any _ rfl _ _ 78 rfl w.heap.size 5 i0 (.int .u8 0) 1 1 Try.underlying78 hi hz0 hz1 hz2 rfl (by decide) _ 1 [.int .u8 (48 + x % 10)] rfl (World.ownsRow_lit _ #[.int .u8 (48 + x % 10)] 1 hF.size (by unfold maxLen; omega) rfl) wr.heap.size A j c _ rfl ((Reads.of_own hown).alloc (Nat.le_refl _) _) (oneCells _) ?c3 ?c4 ?c5 ?_)
          case c3 => unfold maxLen; omega
          case c4 => omega
          case c5 => have := hF.size; simp; omega
          intro v' w1 hown' hgr' _
          have hF1 : Fr [] w w1 := (hF.alloc _).grown hgr' (fun k hk => by cases hk; exact hF.size)
          have hown1 : w1.ownsRow w.heap.size 5 1 v' (j + 1) (((48 + x % 10) :: dgI j N).map (Value.int .u8)) := by rw [Nat.add_comm j 1]; exact hown'
          clear hown' hgr' hown hF
          go_wp2
          go_roundw
          case rel => exact ⟨j + 1, by rw [← Hds.out], by rw [Hcons.out]; exact hown1, hF1, .inr (.inr (by rw [Nat.add_sub_cancel, Hx.out]; exact Hz.out))⟩
          case measure => have := Hz.out; simp only [intOf]; omega
  · have hN' : N = v := by rw [← hN]; unfold absI; rw [if_neg hneg]
    have hN0 : 0 ≤ N := by omega
    have hN1 : N ≤ 9223372036854775808 := by omega
    subst hN'
    have hdig : digL N = bytesOf (dgI (nd 25 N) N) := by unfold digL digI; rw [hN, if_neg hneg]; rfl
    have Hdig := Lib.hid hdig
    have hpos : 0 < N := by omega
    clear hN hdig hv0
    go_enter Try.func30, Try.ntmps30
    go_wp2
    go_loopw [3, 4] (fun bv wv wr => ∃ j : Nat, wv = .int .i64 (N / 10 ^ j) ∧ wr.ownsRow w.heap.size 5 1 bv j ((dgI j N).map (Value.int .u8)) ∧ Fr [] w wr ∧ Hid (j = 0 ∨ N / 10 ^ j ≠ 0 ∨ N / 10 ^ (j - 1) ≠ 0)) (fun _ wv _ => (intOf wv).natAbs)
    case atStart => exact ⟨0, by simp, World.ownsRow_nil _ _ _ _, Fr.refl _ _, .inl rfl⟩
    case round =>
      obtain ⟨j, rfl, hown, hF, hnz⟩ := hrel
      obtain ⟨A, c, rfl⟩ := owned_slice hown
      obtain ⟨x0, x1⟩ := div10_bd N j ⟨hN0, hN1⟩
      have hds := div10_succ N j
      have hcons := dgI_cons j N
      obtain ⟨x, hx⟩ : ∃ x, N / 10 ^ j = x := ⟨_, rfl⟩
      have x3 : x ≤ 9223372036854775807 := by rw [← hx]; exact Int.le_trans (Int.ediv_le_self _ hN0) v1
      by_cases hz : x = 0
      · have hnd : nd 25 N = j := by
          have hj1 : 1 ≤ j := by
            apply Classical.byContradiction; intro hc
            have : j = 0 := by omega
            subst this
            rw [Int.pow_zero, Int.ediv_one] at hx; omega
          have hprev : N / 10 ^ (j - 1) ≠ 0 := by
            rcases hnz.out with h | h | h
            · omega
            · exact absurd (hx.trans hz) h
            · exact h
          have h18 := dg_few N (j - 1) hN1 hN0 (.inr hprev)
          exact nd_of 25 j N hj1 (by omega) hN0 (hx.trans hz) (.inr hprev)
        have Hnd := Lib.hid hnd
        rw [hx, hz]
        clear hnd hz hx hds hcons hnz x0 x1 x3
        have hcv := run_str_any (P := Try.prog) Try.underlying78 Try.underlying5 Try.underlying9 (dgI j N) _ hown
        go_wp2
        go_ret
        exact ⟨rstr (by rw [Hdig.out, Hnd.out]), hF⟩
      · have hj18 := dg_few N j hN1 hN0 (.inr (by rw [hx]; exact hz))
        have hnb : (x != 0) = true := by rw [bne_iff_ne]; omega
        rw [hx] at hds hcons x0 x1 ⊢
        have Hds := Lib.hid hds
        have Hcons := Lib.hid hcons
        have Hz := Lib.hid hz
        have Hx := Lib.hid hx
        clear hds hcons hz hx hnz
        go_wp2_with (at_builtin; refine wpList_append_any _ rfl _ _ 78 rfl w.heap.size 5 i0 (.int .u8 0) 1 1 Try.underlying78 hi hz0 hz1 hz2 rfl (by decide) _ 1 [.int .u8 (48 + x % 10)] rfl (World.ownsRow_lit _ #[.int .u8 (48 + x % 10)] 1 hF.size (by unfold maxLen; omega) rfl) wr.heap.size A j c _ rfl ((Reads.of_own hown).alloc (Nat.le_refl _) _) (oneCells _) ?c3 ?c4 ?c5 ?_)
        case c3 => unfold maxLen; omega
        case c4 => omega
        case c5 => have := hF.size; simp; omega
        intro v' w1 hown' hgr' _
        have hF1 : Fr [] w w1 := (hF.alloc _).grown hgr' (fun k hk => by cases hk; exact hF.size)
        have hown1 : w1.ownsRow w.heap.size 5 1 v' (j + 1) (((48 + x % 10) :: dgI j N).map (Value.int .u8)) := by rw [Nat.add_comm j 1]; exact hown'
        clear hown' hgr' hown hF
        go_wp2
        go_roundw
        case rel => exact ⟨j + 1, by rw [← Hds.out], by rw [Hcons.out]; exact hown1, hF1, .inr (.inr (by rw [Nat.add_sub_cancel, Hx.out]; exact Hz.out))⟩
        case measure => have := Hz.out; simp only [intOf]; omega
end Go.Proofs.Ytnenmgankgadcaa
