/- TapeNone, TapeAnew, walked. -/
import Derived.Test.YtgmlkdchnpacaaaAlive3
import Derived.Test.YtgmlkdchnpacaaaEqTwo
import Derived.Test.YtgmlkdchnpacaaaClock7
import Derived.Deep.RegionHeld3
namespace Go.Proofs.Ytgmlkdchnpacaaa
open Go.RowKit Go.Maps
set_option linter.unusedVariables false
set_option maxRecDepth 100000 in
set_option maxHeartbeats 4000000 in
theorem tapeNone_walk (w : World) (k : Ky) (hk : KyOk k) (n : Int) (n0 : -9223372036854775808 ≤ n) (n1 : n ≤ 9223372036854775807) :
    Calls Try.prog 7 #[.agg (kyC k), .int .i64 n] w fun e w' => e = .returned (.bool true) ∧ Below w.heap.size w w' := by
  have W1 := Lib.hid fun W => when_nil (w := W) k
  have S1 := Lib.hid fun W => set_nil (w := W) k n
  have C1 := Lib.hid fun W => cancel_nil (w := W) k
  obtain ⟨k1, k2⟩ := k
  unfold kyC at W1 S1 C1 ⊢
  simp only at W1 S1 C1 ⊢
  go_enter Try.func7, Try.ntmps7
  have hB := Blk.new w #[.int .i64 k1, .int .i64 k2] 29
  have hF := (Fr.refl [] w).alloc (.cells #[.int .i64 k1, .int .i64 k2] 29 (0, 0))
  go_wp2_with fail
  refine (W1.out _).mono ?_
  rintro e w1 ⟨rfl, hG⟩
  have hF1 := hF.trans hG
  have hB1 := hG.blk hB (by simp)
  clear hF hB hG
  go_wp2_with fail
  refine (alive3 _).mono ?_
  rintro e w2 ⟨rfl, hG⟩
  have hF2 := hF1.trans hG
  have hB2 := hG.blk hB1 (by simp)
  have c0 : w2.cell? ⟨w.heap.size, 0, none⟩ = some (.int .i64 k1) := hB2.c 0 _ rfl
  have c1 : w2.cell? ⟨w.heap.size, 1, none⟩ = some (.int .i64 k2) := hB2.c 1 _ rfl
  clear hF1 hB1 hG
  go_wp2_with fail
  refine (S1.out _).mono ?_
  rintro e w3 ⟨rfl, hG⟩
  have hF3 := hF2.trans hG
  have hB3 := hG.blk hB2 (by simp)
  have c0 : w3.cell? ⟨w.heap.size, 0, none⟩ = some (.int .i64 k1) := hB3.c 0 _ rfl
  have c1 : w3.cell? ⟨w.heap.size, 1, none⟩ = some (.int .i64 k2) := hB3.c 1 _ rfl
  clear hF2 hB2 hG
  go_wp2_with fail
  refine (C1.out _).mono ?_
  rintro e w4 ⟨rfl, hG⟩
  have hF4 := hF3.trans hG
  clear hF3 hB3 hG
  go_wp2_with fail
  refine (tick_nil n).mono ?_
  rintro e w5 ⟨rfl, hG⟩
  have hF5 := hF4.trans hG
  clear hF4 hG
  go_wp2_with fail
  refine len_nil.mono ?_
  rintro e w6 ⟨rfl, rfl⟩
  go_wp2_with fail
  refine now_nil.mono ?_
  rintro e w7 ⟨rfl, rfl⟩
  go_wp2_with fail
  go_ret
  exact ⟨rfl, hF5.below (Nat.le_refl _) (by simp)⟩
theorem anew_ks {k : Ky} {ks : List Ky} {N b : Int} (h : ks.Perm (dks N [(k, (b, 2))])) (hb : b ≤ N) : ks = [k] := by
  have : dks N [(k, ((b, 2) : Tm))] = [k] := by unfold dks; simp [hb]
  rw [this] at h
  exact List.perm_singleton.1 h
set_option maxRecDepth 100000 in
set_option maxHeartbeats 8000000 in
theorem anew_small (w : World) (k : Ky) (hk : KyOk k) (a b : Int) (a0 : 1 ≤ a) (a1 : a ≤ 100000) (b0 : 1 ≤ b) (b1 : b ≤ 100000) :
    Calls Try.prog 4 #[.agg (kyC k), .int .i64 a, .int .i64 b] w fun e w' => e = .returned (.bool true) ∧ Below w.heap.size w w' := by
  have HK := Lib.hid hk
  obtain ⟨k1, k2⟩ := k
  unfold kyC
  simp only
  clear hk
  have hg1 : ¬ a < 1 := by omega
  have hg2 : ¬ b < 1 := by omega
  have hg3 : ¬ 100000 < a := by omega
  have hg4 : ¬ 100000 < b := by omega
  go_enter Try.func4, Try.ntmps4
  have hB := Blk.new w #[.int .i64 k1, .int .i64 k2] 29
  have hF := (Fr.refl [] w).alloc (.cells #[.int .i64 k1, .int .i64 k2] 29 (0, 0))
  obtain ⟨q, hq⟩ : ∃ q, w.heap.size = q := ⟨_, rfl⟩
  rw [hq] at hB
  go_wp2_with fail
  obtain ⟨W0, hW0⟩ : ∃ W, w.alloc (.cells #[.int .i64 k1, .int .i64 k2] 29 (0, 0)) = W := ⟨_, rfl⟩
  rw [hW0] at hB hF ⊢
  clear hW0 hq
  refine (new_in _).mono ?_
  rintro e w1 ⟨c, rfl, hC, hF1⟩
  have hB1 := hF1.blk hB (by simp)
  have c0 : w1.cell? ⟨q, 0, none⟩ = some (.int .i64 k1) := hB1.c 0 _ rfl
  have c1 : w1.cell? ⟨q, 1, none⟩ = some (.int .i64 k2) := hB1.c 1 _ rfl
  have S1 := Lib.hid (set_in (k1, k2) a HK.out hC CI.new (by decide) hF1)
  have e1 : setE [] (k1, k2) a = 0 := by unfold setE; rw [if_neg (by omega), if_neg (by simp)]
  have e2 : setO 0 [] (k1, k2) a = 1 := by unfold setO; rw [if_pos e1]; rfl
  have e3 : setL 0 0 [] (k1, k2) a = [((k1, k2), (a, 1))] := by unfold setL; rw [if_pos e1, Int.zero_add]; rfl
  have I1 := Lib.hid (CI.new.set_ (k1, k2) a)
  rw [e1, e2, e3] at S1
  rw [e2, e3] at I1
  unfold kyC at S1
  simp only at S1
  clear hC e1 e2 e3
  go_wp2_with fail
  refine S1.out.mono ?_
  rintro e w2 ⟨rfl, hC, hF2⟩
  have hB2 := hF2.blk hB (by simp)
  have c0 : w2.cell? ⟨q, 0, none⟩ = some (.int .i64 k1) := hB2.c 0 _ rfl
  have c1 : w2.cell? ⟨q, 1, none⟩ = some (.int .i64 k2) := hB2.c 1 _ rfl
  have S2 := Lib.hid (set_in (k1, k2) b HK.out hC I1.out (by decide) hF2)
  have hlk : look [((k1, k2), ((a, 1) : Tm))] (k1, k2) = some (a, 1) := by simp [look]
  have e1 : setE [((k1, k2), ((a, 1) : Tm))] (k1, k2) b = 0 := by unfold setE; rw [if_neg (by omega), if_neg (by simp)]
  have e2 : setO 1 [((k1, k2), ((a, 1) : Tm))] (k1, k2) b = 2 := by unfold setO; rw [if_pos e1]; rfl
  have e3 : setL 0 1 [((k1, k2), ((a, 1) : Tm))] (k1, k2) b = [((k1, k2), (b, 2))] := by unfold setL put; rw [if_pos e1, hlk, Int.zero_add]; simp
  have I2 := Lib.hid (I1.out.set_ (k1, k2) b)
  rw [e1, e2, e3] at S2
  rw [e2, e3] at I2
  unfold kyC at S2
  simp only at S2
  clear hC e1 e2 e3 hlk S1 hB1 hF1 I1
  go_wp2_with fail
  refine S2.out.mono ?_
  rintro e w3 ⟨rfl, hC, hF3⟩
  have L3 := Lib.hid (len_in hC)
  clear S2 hB2 hF2
  go_wp2_with fail
  refine L3.out.mono ?_
  rintro e w4 ⟨rfl, rfl⟩
  have hll : ([((k1, k2), ((b, 2) : Tm))] : Tms).length = 1 := rfl
  have T4 := Lib.hid (tick_in (a + b) hC I2.out (by omega) (by omega) hF3)
  have hlt : later 0 (a + b) = a + b := by unfold later; omega
  rw [hlt] at T4
  have HN := Lib.hid (show b ≤ a + b by omega)
  clear L3 hC hF3 hlt
  go_wp2_with fail
  refine T4.out.mono ?_
  rintro e w5 ⟨ks, A, cap, rfl, hp, hs, hr, hC, hF5, _⟩
  obtain rfl := anew_ks hp HN.out
  rcases hr with hr | ⟨r, rfl, hr1, hr⟩
  · cases hr
  have hB5 := hF5.blk hB (by simp)
  have hun : undue (a + b) [((k1, k2), ((b, 2) : Tm))] = [] := by unfold undue; have := HN.out; simp; omega
  rw [hun] at hC
  have W5 := Lib.hid (when_in (k1, k2) HK.out hC)
  have hrl : r < w5.heap.size := cell_lt (hr 0 _ rfl 0 _ rfl).1
  have HR : Hid (∀ W, Fr [] w5 W → W.cell? ⟨r, 0, none⟩ = some (.int .i64 k1) ∧ W.cell? ⟨r, 1, none⟩ = some (.int .i64 k2)) := Lib.hid fun W hW => ⟨(hr.fr hW hrl (by simp) 0 _ rfl 0 _ rfl).1, (hr.fr hW hrl (by simp) 0 _ rfl 1 _ rfl).1⟩
  have hl0 : (tmD (look ([] : Tms) (k1, k2))).1 = 0 := rfl
  have hl1 : (look ([] : Tms) (k1, k2)).isSome = false := rfl
  rw [hl0, hl1] at W5
  unfold kyC at W5
  simp only at W5
  have d0 : w5.cell? ⟨q, 0, none⟩ = some (.int .i64 k1) := hB5.c 0 _ rfl
  have d1 : w5.cell? ⟨q, 1, none⟩ = some (.int .i64 k2) := hB5.c 1 _ rfl
  have hk1 : ([(k1, k2)] : List Ky).length = 1 := rfl
  rw [hk1]
  clear T4 hp hs hr hC hun hl0 hl1 hrl hr1 c0 c1 hk1
  go_wp2_with fail
  refine W5.out.mono ?_
  rintro e w6 ⟨rfl, hG6⟩
  have heq : ∀ W, (Op.equalIn 10000 29 (.agg #[.int .i64 k1, .int .i64 k2]) (.agg #[.int .i64 k1, .int .i64 k2])).run Try.prog W = .ok true W := fun W => by
    have := eq_two 29 (by kernel_rfl) (by kernel_rfl) (by kernel_rfl) k1 k2 k1 k2 W
    rwa [decide_eq_true ⟨rfl, rfl⟩] at this
  have HS : Hid (∀ W, Fr [] w6 W → (W.cell? ⟨q, 0, none⟩ = some (.int .i64 k1) ∧ W.cell? ⟨q, 1, none⟩ = some (.int .i64 k2) ∧ W.cell? ⟨r, 0, none⟩ = some (.int .i64 k1) ∧ W.cell? ⟨r, 1, none⟩ = some (.int .i64 k2)) ∧ Fr [] w6 W) := Lib.hid fun W hW => by
    have h1 := (hG6.trans hW).blk hB5 (by simp)
    have h2 := HR.out W (hG6.trans hW)
    exact ⟨⟨h1.c 0 _ rfl, h1.c 1 _ rfl, h2.1, h2.2⟩, hW⟩
  have hG0 := HS.out _ (Fr.refl _ _).drew
  have hF6 := (hF.trans hF5).trans hG6
  have HF6 := Lib.hid hF6
  clear W5 hF6 hF5 hB5 hG6 d0 d1 HR hB hF
  go_wp2_with fail
  go_region_held3 (fun W => (W.cell? ⟨q, 0, none⟩ = some (.int .i64 k1) ∧ W.cell? ⟨q, 1, none⟩ = some (.int .i64 k2) ∧ W.cell? ⟨r, 0, none⟩ = some (.int .i64 k1) ∧ W.cell? ⟨r, 1, none⟩ = some (.int .i64 k2)) ∧ Fr [] w6 W)
    (first | exact hG0 | assumption | exact HS.out _ (Fr.trans hG0.2 hF7))
    (first | (go_at_call 9; refine (alive3 _).mono ?_; rintro e w7 ⟨rfl, hF7⟩))
  all_goals
    have hS : (w7.cell? ⟨q, 0, none⟩ = some (.int .i64 k1) ∧ w7.cell? ⟨q, 1, none⟩ = some (.int .i64 k2) ∧ w7.cell? ⟨r, 0, none⟩ = some (.int .i64 k1) ∧ w7.cell? ⟨r, 1, none⟩ = some (.int .i64 k2)) ∧ Fr [] w6 w7 := by assumption
    have hFF := HF6.out.trans hS.2
    clear hG0 hS hF7 HS HF6
    go_wp2_with fail
    go_ret
    exact ⟨rfl, hFF.below (Nat.le_refl _) (by simp)⟩
set_option maxRecDepth 100000 in
set_option maxHeartbeats 4000000 in
theorem tapeAnew_walk (w : World) (k : Ky) (hk : KyOk k) (a : Int) (a0 : -9223372036854775808 ≤ a) (a1 : a ≤ 9223372036854775807) (b : Int) (b0 : -9223372036854775808 ≤ b) (b1 : b ≤ 9223372036854775807) :
    Calls Try.prog 4 #[.agg (kyC k), .int .i64 a, .int .i64 b] w fun e w' => e = .returned (.bool true) ∧ Below w.heap.size w w' := by
  by_cases h : 1 ≤ a ∧ 1 ≤ b ∧ a ≤ 100000 ∧ b ≤ 100000
  · exact anew_small w k hk a b h.1 h.2.2.1 h.2.1 h.2.2.2
  · have hX : a < 1 ∨ ¬ a < 1 ∧ b < 1 ∨ ¬ a < 1 ∧ ¬ b < 1 ∧ 100000 < a ∨ ¬ a < 1 ∧ ¬ b < 1 ∧ ¬ 100000 < a ∧ 100000 < b := by omega
    obtain ⟨k1, k2⟩ := k
    unfold kyC
    simp only
    clear h
    rcases hX with h1 | ⟨h1, h2⟩ | ⟨h1, h2, h3⟩ | ⟨h1, h2, h3, h4⟩
    all_goals
      go_enter Try.func4, Try.ntmps4
      go_wp2_with fail
      refine (alive3 _).mono ?_
      rintro e w1 ⟨rfl, hG⟩
      go_wp2_with fail
      go_ret
      exact ⟨rfl, (((Fr.refl [] w).alloc _).trans hG).below (Nat.le_refl _) (by simp)⟩
end Go.Proofs.Ytgmlkdchnpacaaa
