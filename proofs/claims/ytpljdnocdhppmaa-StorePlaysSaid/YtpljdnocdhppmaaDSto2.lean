/- the document's store: shut, judge, Pap, Chap, Wrong, New (printed by tools/gen_dsto.py). -/
import Derived.Test.YtpljdnocdhppmaaDSto1
namespace Go.Proofs.Ytpljdnocdhppmaa
open Go.RowKit Go.Maps
set_option linter.unusedVariables false
theorem wrap_sub_lt (t la : Int) (h : la ≤ t) (t1 : t ≤ 9223372036854775807) (l0 : -9223372036854775808 ≤ la) (calm : Int) (c0 : 1 ≤ calm) (c1 : calm ≤ 1000) : (0 ≤ IntKind.i64.wrap (t - la) ∧ IntKind.i64.wrap (t - la) < calm) ↔ t - la < calm := by
  rw [IntKind.wrap_i64]
  omega
section
variable {w : World} {g : Nat} {lim calm : Int} {r : Value} {D : List DK}
set_option maxRecDepth 100000 in
set_option maxHeartbeats 4000000 in
theorem dshut_any (i : Nat) (who : Who) (k : Kn) (hi : D[i]? = some (who, k)) (t : Int) (t0 : -9223372036854775808 ≤ t) (t1 : t ≤ 9223372036854775807) (hk : KnOk k) (l0 : 0 ≤ lim) (l1 : lim ≤ 100) (c0 : 1 ≤ calm) (c1 : calm ≤ 1000) (hl : D.length ≤ 1000) (h : DSt w g lim calm r D) :
    Calls Try.prog 67 #[.pointer (some ⟨g, 0, none⟩), .int .i64 i, .int .i64 t] w fun e w' => e = .returned (.bool (shutB lim calm k t)) ∧ Fr [] w w' := by
  obtain ⟨A, cap, rfl⟩ := rown_slice h.row
  obtain ⟨q, rfl, hq, hcell⟩ := RAt.of_own dkL_len h.row i _ hi
  have hil : i < D.length := (List.getElem?_eq_some_iff.1 hi).1
  have hcp := rown_caps h.row
  obtain ⟨n1, n2⟩ := who
  obtain ⟨ks, kw, kl⟩ := k
  have g2 : w.cell? ⟨g, 2, none⟩ = some (.slice (some ⟨q, 0, none⟩) D.length cap) := h.st.c 2 _ rfl
  have d0 : w.cell? ⟨q, i * 5, none⟩ = some (.string (B n1)) := hcell w (Fr.refl _ _) 0 _ rfl
  have d1 : w.cell? ⟨q, i * 5 + 1, none⟩ = some (.string (B n2)) := hcell w (Fr.refl _ _) 1 _ rfl
  have d2 : w.cell? ⟨q, i * 5 + 2, none⟩ = some (.string (B ks)) := hcell w (Fr.refl _ _) 2 _ rfl
  have d3 : w.cell? ⟨q, i * 5 + 3, none⟩ = some (.int .i64 kw) := hcell w (Fr.refl _ _) 3 _ rfl
  have d4 : w.cell? ⟨q, i * 5 + 4, none⟩ = some (.int .i64 kl) := hcell w (Fr.refl _ _) 4 _ rfl
  have HST := Lib.hid h.st
  obtain ⟨k1, k2, k3, k4⟩ := hk
  simp only at k1 k2 k3 k4
  obtain ⟨RB, hRB⟩ : ∃ x, shutB lim calm ⟨ks, kw, kl⟩ t = x := ⟨_, rfl⟩
  rw [hRB]
  unfold shutB at hRB
  simp only at hRB
  have HRB := Lib.hid hRB
  clear hRB
  have hiI : (i : Int) < D.length := by omega
  clear h hi hcell
  have hF1 := (Fr.refl [] w).alloc (.cells #[.string (B n1), .string (B n2), .string (B ks), .int .i64 kw, .int .i64 kl] 98 (0, 0))
  have hN := Blk.new w #[.string (B n1), .string (B n2), .string (B ks), .int .i64 kw, .int .i64 kl] 98
  go_enter Try.func67, Try.ntmps67
  go_wp2_with fail
  obtain ⟨b, hb⟩ : ∃ b, w.heap.size = b := ⟨_, rfl⟩
  obtain ⟨W1, hW1⟩ : ∃ V, w.alloc (.cells #[.string (B n1), .string (B n2), .string (B ks), .int .i64 kw, .int .i64 kl] 98 (0, 0)) = V := ⟨_, rfl⟩
  rw [hb] at hN ⊢
  rw [hW1] at hN hF1 ⊢
  have HF1 := Lib.hid hF1
  have HX : Hid (∀ W, Fr [] W1 W → W.cell? ⟨g, 0, none⟩ = some (.int .i64 lim) ∧ W.cell? ⟨g, 1, none⟩ = some (.int .i64 calm) ∧ W.cell? ⟨b, 3, none⟩ = some (.int .i64 kw) ∧ W.cell? ⟨b, 4, none⟩ = some (.int .i64 kl)) := Lib.hid fun W hW => by
    have h1 := hW.blk (HF1.out.blk HST.out (by simp)) (by simp)
    have h2 := hW.blk hN (by simp)
    exact ⟨h1.c 0 _ rfl, h1.c 1 _ rfl, h2.c 3 _ rfl, h2.c 4 _ rfl⟩
  clear hb hW1 hN hF1 g2 d0 d1 d2 d3 d4
  by_cases hz : lim = 0
  · have hlz : (lim == 0) = true := by simpa using hz
    have hres : RB = false := HRB.out.symm.trans (decide_eq_false (by omega))
    have HRES := Lib.hid hres
    have hG0 : (W1.drew).cell? ⟨g, 0, none⟩ = some (.int .i64 lim) ∧ Fr [] W1 W1.drew := ⟨(HX.out _ (Fr.refl _ W1).drew).1, (Fr.refl _ W1).drew⟩
    clear hres hz
    refine wp_region_held_drew (S := (fun W => (W.cell? ⟨g, 0, none⟩ = some (.int .i64 lim)) ∧ Fr [] W1 W)) (by kernel_rfl) ?_ (fun hHeld => ?_)
    · (try dsimp only); exact hG0
    refine take_yes 0 16 rfl rfl (by kernel_rfl) (by kernel_rfl) (by kernel_rfl) (fun _ _ _ h => h) (by rfl) (by assumption) (v := ?_) ?_ ?_
    rotate_left
    · intro w hSw; (try dsimp only at hSw); go_simp; (try with_reducible rfl)
    try simp only [Act.put, List.setIfInBounds_toArray, List.set_cons_zero, List.set_cons_succ]
    refine take_yes 1 17 rfl rfl (by kernel_rfl) (by kernel_rfl) (by kernel_rfl) (fun _ _ _ h => h) (by rfl) (by assumption) (v := ?_) ?_ ?_
    rotate_left
    · intro w hSw; (try dsimp only at hSw); go_simp; (try with_reducible rfl)
    try simp only [Act.put, List.setIfInBounds_toArray, List.set_cons_zero, List.set_cons_succ]
    refine take_yes 2 18 rfl rfl (by kernel_rfl) (by kernel_rfl) (by kernel_rfl) (fun _ _ _ h => h) (by rfl) (by assumption) (v := ?_) ?_ ?_
    rotate_left
    · intro w hSw; (try dsimp only at hSw); go_simp; (try with_reducible rfl)
    try simp only [Act.put, List.setIfInBounds_toArray, List.set_cons_zero, List.set_cons_succ]
    refine take_yes 3 19 rfl rfl (by kernel_rfl) (by kernel_rfl) (by kernel_rfl) (fun _ _ _ h => h) (by rfl) (by assumption) (v := ?_) ?_ ?_
    rotate_left
    · intro w hSw; (try dsimp only at hSw); go_simp; (try with_reducible rfl)
    try simp only [Act.put, List.setIfInBounds_toArray, List.set_cons_zero, List.set_cons_succ]
    refine take_yes 4 20 rfl rfl (by kernel_rfl) (by kernel_rfl) (by kernel_rfl) (fun _ _ _ h => h) (by rfl) (by assumption) (v := ?_) ?_ ?_
    rotate_left
    · intro w hSw; (try dsimp only at hSw); go_simp; (try with_reducible rfl)
    try simp only [Act.put, List.setIfInBounds_toArray, List.set_cons_zero, List.set_cons_succ]
    refine take_yes 5 21 rfl rfl (by kernel_rfl) (by kernel_rfl) (by kernel_rfl) (fun _ _ _ h => h) (by rfl) (by assumption) (v := ?_) ?_ ?_
    rotate_left
    · intro w hSw; (try dsimp only at hSw); go_simp; (try with_reducible rfl)
    try simp only [Act.put, List.setIfInBounds_toArray, List.set_cons_zero, List.set_cons_succ]
    refine take_no 6 22 rfl rfl (by kernel_rfl) (by kernel_rfl) (by kernel_rfl) (fun _ _ _ h => h) (by rfl) (by assumption) ?_
    try simp only [Act.put, List.setIfInBounds_toArray, List.set_cons_zero, List.set_cons_succ]
    refine take_no 7 23 rfl rfl (by kernel_rfl) (by kernel_rfl) (by kernel_rfl) (fun _ _ _ h => h) (by rfl) (by assumption) ?_
    try simp only [Act.put, List.setIfInBounds_toArray, List.set_cons_zero, List.set_cons_succ]
    refine take_no 8 24 rfl rfl (by kernel_rfl) (by kernel_rfl) (by kernel_rfl) (fun _ _ _ h => h) (by rfl) (by assumption) ?_
    try simp only [Act.put, List.setIfInBounds_toArray, List.set_cons_zero, List.set_cons_succ]
    refine take_no 9 25 rfl rfl (by kernel_rfl) (by kernel_rfl) (by kernel_rfl) (fun _ _ _ h => h) (by rfl) (by assumption) ?_
    try simp only [Act.put, List.setIfInBounds_toArray, List.set_cons_zero, List.set_cons_succ]
    refine take_no 10 26 rfl rfl (by kernel_rfl) (by kernel_rfl) (by kernel_rfl) (fun _ _ _ h => h) (by rfl) (by assumption) ?_
    try simp only [Act.put, List.setIfInBounds_toArray, List.set_cons_zero, List.set_cons_succ]
    refine take_no 11 27 rfl rfl (by kernel_rfl) (by kernel_rfl) (by kernel_rfl) (fun _ _ _ h => h) (by rfl) (by assumption) ?_
    try simp only [Act.put, List.setIfInBounds_toArray, List.set_cons_zero, List.set_cons_succ]
    refine take_no 12 28 rfl rfl (by kernel_rfl) (by kernel_rfl) (by kernel_rfl) (fun _ _ _ h => h) (by rfl) (by assumption) ?_
    try simp only [Act.put, List.setIfInBounds_toArray, List.set_cons_zero, List.set_cons_succ]
    refine take_yes 13 29 rfl rfl (by kernel_rfl) (by kernel_rfl) (by kernel_rfl) (fun _ _ _ h => h) (by rfl) (by assumption) (v := ?_) ?_ ?_
    rotate_left
    · intro w hSw; (try dsimp only at hSw); go_simp; (try with_reducible rfl)
    try simp only [Act.put, List.setIfInBounds_toArray, List.set_cons_zero, List.set_cons_succ]
    refine wpAnyH_done (by kernel_rfl) ?_ _
    have HFZ := Lib.hid (HF1.out.trans hHeld.2)
    clear hHeld hG0 HX
    go_wp2_with fail
    go_ret
    exact ⟨by rw [HRES.out]; rfl, HFZ.out⟩
  · have hlz : (lim == 0) = false := by simpa using hz
    obtain ⟨x0, x1, x2, x3⟩ := HX.out _ (Fr.refl _ W1)
    by_cases hwl : kw < lim
    · have hres : RB = false := HRB.out.symm.trans (decide_eq_false (by omega))
      have HRES := Lib.hid hres
      have hq2 : decide (kw < lim) = true := decide_eq_true hwl
      clear hres hz
      go_wp2_with fail
      go_quiet (fail)
      have HFZ := Lib.hid (HF1.out.drewN nq)
      clear x0 x1 x2 x3
      go_wp2_with fail
      go_ret
      exact ⟨by rw [HRES.out]; rfl, HFZ.out⟩
    · have hq2 : decide (kw < lim) = false := decide_eq_false hwl
      go_wp2_with fail
      go_quiet (fail)
      obtain ⟨V, hV⟩ : ∃ V, W1.drewN nq = V := ⟨_, rfl⟩
      have hFV : Fr [] W1 V := by rw [← hV]; exact (Fr.refl _ _).drewN nq
      rw [hV]
      clear x0 x1 x2 x3 hV
      obtain ⟨x0, x1, x2, x3⟩ := HX.out _ hFV
      have HFZ := Lib.hid (HF1.out.trans hFV)
      clear hFV HX
      by_cases htl : t < kl
      · have hres : RB = true := HRB.out.symm.trans (decide_eq_true (by omega))
        have HRES := Lib.hid hres
        have hq3 : decide (t < kl) = true := decide_eq_true htl
        clear hres hz hwl
        go_wp2_with fail
        go_ret
        exact ⟨by rw [HRES.out]; rfl, HFZ.out⟩
      · have hq3 : decide (t < kl) = false := decide_eq_false htl
        have hws := wrap_sub_lt t kl (by omega) t1 k1 calm c0 c1
        obtain ⟨dd, hdd⟩ : ∃ d, IntKind.i64.wrap (t - kl) = d := ⟨_, rfl⟩
        rw [hdd] at hws
        have hres : RB = (decide (0 ≤ dd) && decide (dd < calm)) := by
          rw [← HRB.out, Bool.eq_iff_iff, decide_eq_true_iff, Bool.and_eq_true, decide_eq_true_iff, decide_eq_true_iff, hws]
          have : max calm 1 = calm := by omega
          rw [this]
          omega
        have HRES := Lib.hid hres
        clear hres hws hz hwl htl
        by_cases hd0 : 0 ≤ dd
        · have hq4 : decide (0 ≤ dd) = true := decide_eq_true hd0
          go_wp2_with fail
          go_ret
          exact ⟨by rw [HRES.out, hq4]; rfl, HFZ.out⟩
        · have hq4 : decide (0 ≤ dd) = false := decide_eq_false hd0
          go_wp2_with fail
          go_ret
          exact ⟨by rw [HRES.out, hq4]; rfl, HFZ.out⟩
end
end Go.Proofs.Ytpljdnocdhppmaa
