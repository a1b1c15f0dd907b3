import Derived.Test.YtafghlggncjmnaaT4
import Derived.Deep.RegionHeld3
namespace Go.Proofs.Ytafghlggncjmnaa
open Go.RowKit
set_option linter.unusedVariables false

theorem rpass_to (b : Nat) (s s' : Bk) (n : Int) (r : Bool) (w : World) (hB : Blk w b s.cs 39) (ok : s.ok)
  (n0 : -9223372036854775808 ≤ n) (n1 : n ≤ 9223372036854775807) (hr : s.passes n = r) (hs : s.pass n = s') :
    Calls Try.prog 13 #[.pointer (some ⟨b, 0, none⟩), .int .i64 n] w fun e w' => e = .returned (.bool r) ∧ Blk w' b s'.cs 39 ∧ Fr [b] w w' := by
  subst hr; subst hs
  exact rpass_any b s n w hB ok n0 n1
theorem left_q (b : Nat) (r u l p h : Int) (w : World) (hB : Blk w b (Bk.cs ⟨r, u, l, p, h⟩) 42) :
    Calls Try.prog 15 #[.pointer (some ⟨b, 0, none⟩)] w fun e w' => e = .returned (.int .i64 l) ∧ w' = w :=
  (left_any b _ w hB).mono fun _ _ ⟨he, hw⟩ => ⟨he, hw.symm⟩
theorem counts_q (b : Nat) (r u l p h : Int) (w : World) (hB : Blk w b (Bk.cs ⟨r, u, l, p, h⟩) 42) :
    Calls Try.prog 14 #[.pointer (some ⟨b, 0, none⟩)] w fun e w' => e = .returned (.tuple #[.int .i64 p, .int .i64 h]) ∧ Fr [] w w' :=
  (counts_any b _ w hB).mono fun _ _ ⟨he, n, hw⟩ => ⟨he, by rw [hw]; exact (Fr.refl _ _).drewN _⟩
theorem fr_cell {S : List Nat} {w w' : World} (h : Fr S w w') {b i : Nat} {v : Value} (hc : w.cell? ⟨b, i, none⟩ = some v) (hb : b < w.heap.size) (hn : b ∉ S) : w'.cell? ⟨b, i, none⟩ = some v :=
  (World.cell?_of_block (w := w) (h.block b hb hn)).trans hc

set_option maxRecDepth 100000 in
set_option maxHeartbeats 4000000 in
theorem policePlays_walk (w : World) (r : Int) (r0 : -9223372036854775808 ≤ r) (r1 : r ≤ 9223372036854775807) (u : Int) (u0 : -9223372036854775808 ≤ u) (u1 : u ≤ 9223372036854775807)
    (a : Option Addr) (len cap : Nat) (l : List (Int × Int)) (hl : IsPairs w a len cap l) :
    Calls Try.prog 3 #[.int .i64 r, .int .i64 u, .slice a len cap] w fun e w' => e = .returned (.bool true) ∧ Below w.heap.size w w' := by
  obtain ⟨hlen, hcap, hmax, hcell⟩ := hl
  unfold maxLen at hmax
  have Hlen := Lib.hid hlen
  clear hlen
  by_cases h400 : 400 < len
  · go_enter Try.func3, Try.ntmps3
    go_wp2_with fail
    refine (alive_any _).mono ?_
    rintro e w1 ⟨rfl, hF⟩
    go_wp2
    go_ret
    exact ⟨rfl, hF.below (Nat.le_refl _) (by simp)⟩
  cases hA : argOk r u with
  | false =>
    have HA := Lib.hid hA
    clear hA
    go_enter Try.func3, Try.ntmps3
    go_wp2_with fail
    refine (new_no r u _ HA.out).mono ?_
    rintro e w1 ⟨rfl, rfl⟩
    go_wp2_with fail
    refine (rnew_no r u _ HA.out).mono ?_
    rintro e w1 ⟨rfl, rfl⟩
    go_wp2_with fail
    refine (alive_any _).mono ?_
    rintro e w1 ⟨rfl, hF⟩
    go_wp2
    go_ret
    exact ⟨rfl, hF.below (Nat.le_refl _) (by simp)⟩
  | true =>
    have ok : Bk.ok ⟨r, u, u, 0, 0⟩ := Bk.ok_new hA
    have HA := Lib.hid hA
    clear hA
    go_enter Try.func3, Try.ntmps3
    go_wp2_with fail
    refine (new_any r u _ HA.out).mono ?_
    rintro e w1 ⟨b, rfl, hb, hB, hF1⟩
    go_wp2_with fail
    refine (rnew_any r u _ HA.out).mono ?_
    rintro e w2 ⟨c, rfl, hc, hC, hF2⟩
    have hbc : b ≠ c := by have := hB.lt; omega
    have hcb : c ≠ b := fun e => hbc e.symm
    have hB2 := hF2.blk hB (by simp)
    have f2 := hF1.trans hF2
    have hcw : w.heap.size ≤ c := by have := hF1.size; omega
    clear hF1 hF2
    go_wp2_with fail
    go_loopw [11] (fun iv wr => ∃ (k : Nat) (s : Bk), iv = .int .i64 k ∧ k ≤ len ∧ s.ok ∧ Blk wr b s.cs 42 ∧ Blk wr c s.cs 39 ∧ Fr [] w wr) (fun iv _ => len - (intOf iv).toNat)
    case atStart => exact ⟨0, _, rfl, Nat.zero_le _, ok, hB2, hC, f2⟩
    case round =>
      obtain ⟨k, s, rfl, hk, oks, hB, hC, hF⟩ := hrel
      by_cases hkl : k < len
      · obtain ⟨bb, off, rfl, hbb, hc'⟩ := hcell.resolve_left (by omega)
        obtain ⟨c0, c1, x0, x1⟩ := hc' k (by rw [Hlen.out]; exact hkl)
        obtain ⟨⟨kd, n⟩, hn⟩ : ∃ q : Int × Int, l[k]'(by rw [Hlen.out]; exact hkl) = q := ⟨_, rfl⟩
        rw [hn] at c0 c1 x0 x1
        clear hc' hcell hn
        simp only at c0 c1 x0 x1
        have d0 : wr.cell? ⟨bb, off + k * 2, none⟩ = some (.int .i64 kd) := by
          rw [← c0]; exact World.cell?_of_block (hF.block bb hbb (by simp))
        have d1 : wr.cell? ⟨bb, off + k * 2 + 1, none⟩ = some (.int .i64 n) := by
          rw [← c1]; exact World.cell?_of_block (hF.block bb hbb (by simp))
        clear c0 c1
        obtain ⟨n0, n1⟩ := x1
        have hbB : bb ≠ b := by omega
        have hbC : bb ≠ c := by omega
        by_cases hkd : kd = 2
        · subst hkd
          go_wp2_with fail
          refine (tick_any b s n _ hB oks n0 n1).mono ?_
          rintro e w3 ⟨rfl, hB3, hF3⟩
          have hC3 := hF3.blk hC (by simpa using hcb)
          have d1' : w3.cell? ⟨bb, off + k * 2 + 1, none⟩ = some (.int .i64 n) := by
            rw [← d1]; exact World.cell?_of_block (hF3.block bb (by have := hF.size; omega) (by simpa using hbB))
          have f3 := hF.sub hF3 (by simp; omega)
          clear d0 d1 hB hC hF hF3
          go_wp2_with fail
          refine (rtick_any c s n _ hC3 oks n0 n1).mono ?_
          rintro e w4 ⟨rfl, hC4, hF4⟩
          have hB4 := hF4.blk hB3 (by simpa using hbc)
          have f4 := f3.sub hF4 (by simp; omega)
          have ok2 : (s.tick n).ok := Bk.ok_tick oks
          obtain ⟨s2, hs2⟩ : ∃ s2, s.tick n = s2 := ⟨_, rfl⟩
          rw [hs2] at hB4 hC4 ok2
          clear hs2 hB3 hC3 f3 hF4
          obtain ⟨r', u', l', p', h'⟩ := s2
          go_wp2_with fail
          refine (counts_q b r' u' l' p' h' _ hB4).mono ?_
          rintro e w6 ⟨rfl, hF6⟩
          have hB6 := hF6.blk hB4 (by simp)
          have hC6 := hF6.blk hC4 (by simp)
          have f6 := f4.trans hF6
          have c2 := hC6.c 2 (.int .i64 l') rfl
          have c3 := hC6.c 3 (.int .i64 p') rfl
          have c4 := hC6.c 4 (.int .i64 h') rfl
          clear hB4 hC4 f4 hF6
          go_wp2_with fail
          go_quiet ((go_at_call 15; exact Calls.quiet_of_same (left_q b r' u' l' p' h' _ (by exact hB6))))
          go_wp2
          go_roundw
          case rel => exact ⟨k + 1, _, by go_num, by omega, ok2, hB6.drewN _, hC6.drewN _, f6.drewN _⟩
          case measure => simp [intOf]; omega
        · have hd : (kd == 2) = false := by simpa using hkd
          obtain ⟨q, hq⟩ : ∃ q, s.passes n = q := ⟨_, rfl⟩
          obtain ⟨s2, hs2⟩ : ∃ s2, s.pass n = s2 := ⟨_, rfl⟩
          have ok2 : s2.ok := hs2 ▸ Bk.ok_pass oks
          have Hq := Lib.hid hq
          have Hs := Lib.hid hs2
          clear hq hs2
          go_wp2_with fail
          go_region_held3 (fun w' => w'.cell? ⟨bb, off + k * 2 + 1, none⟩ = some (.int .i64 n)) (first | assumption) (first | (go_at_call 12; refine (pass_to b s s2 n q _ hB.drew oks n0 n1 Hq.out Hs.out).mono ?_; rintro e w3 ⟨rfl, hB3, hF3⟩; have hC3 := hF3.blk hC.drew (by simpa using hcb); have d3 := fr_cell hF3 d1 (by have := hF.size; show bb < wr.heap.size; omega) (by simpa using hbB)) | (go_at_call 13; refine (rpass_to c s s2 n q _ hC3 oks n0 n1 Hq.out Hs.out).mono ?_; rintro e w4 ⟨rfl, hC4, hF4⟩; have d4 := fr_cell hF4 d3 (by have := hF.size; have := hF3.size; have e : wr.drew.heap.size = wr.heap.size := rfl; omega) (by simpa using hbC)))
          have f4 : Fr [] w w4 := (hF.drew.sub hF3 (by simp; omega)).sub hF4 (by simp; omega)
          have hB4 := hF4.blk hB3 (by simpa using hbc)
          obtain ⟨r', u', l', p', h'⟩ := s2
          go_wp2_with fail
          refine (counts_q b r' u' l' p' h' _ hB4).mono ?_
          rintro e w6 ⟨rfl, hF6⟩
          have hB6 := hF6.blk hB4 (by simp)
          have hC6 := hF6.blk hC4 (by simp)
          have f6 := f4.trans hF6
          have c2 := hC6.c 2 (.int .i64 l') rfl
          have c3 := hC6.c 3 (.int .i64 p') rfl
          have c4 := hC6.c 4 (.int .i64 h') rfl
          clear hB4 hC4 f4 hF6
          go_wp2_with fail
          go_quiet ((go_at_call 15; exact Calls.quiet_of_same (left_q b r' u' l' p' h' _ (by exact hB6))))
          go_wp2
          go_roundw
          case rel => exact ⟨k + 1, _, by go_num, by omega, ok2, hB6.drewN _, hC6.drewN _, f6.drewN _⟩
          case measure => simp [intOf]; omega
      · have : k = len := by omega
        subst this
        go_wp2_with fail
        refine (alive_any _).mono ?_
        rintro e w1 ⟨rfl, hF1⟩
        go_wp2
        go_ret
        exact ⟨rfl, (hF.trans hF1).below (Nat.le_refl _) (by simp)⟩
end Go.Proofs.Ytafghlggncjmnaa
