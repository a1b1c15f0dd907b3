/- the document's host: Take of any frame (printed by tools/gen_dhoe.py). -/
import Derived.Test.YtfchbppfbepelaaGreatDHoD
import Derived.Deep.DeepCutAuto
import Derived.Deep.CutBlock
namespace Go.Proofs.YtfchbppfbepelaaGreat
open Go.RowKit Go.Deep
set_option linter.unusedVariables false
theorem dTake_none {d : Dh} {f : Eth} (h : readF d.m f = none) : dTake d f = (d, []) := by unfold dTake; rw [h]
theorem dTake_some {d : Dh} {f : Eth} {c ss : Int} {l : List Tg} (h : readF d.m f = some (c, ss, l)) : dTake d f = dGot d f.2.1 c ss l := by unfold dTake; rw [h]
section
variable {w : World} {g : Nat} {d : Dh}
set_option maxRecDepth 100000 in
set_option maxHeartbeats 32000000 in
theorem dtake_any (k s : Mc) (ty : Int) (d0 : List UInt8) (hi : DI d) (hd0 : d0.length ≤ 3000) (hB : Blk w g (dhC d) 254) :
    Calls Tryz.prog 61 #[.pointer (some ⟨g, 0, none⟩), .agg (ethC k s ty d0)] w (DOut w g (dTake d (k, s, ty, d0)).2 (dTake d (k, s, ty, d0)).1) := by
  have RD := Lib.hid fun W => read_any (w := W) k s ty d0 hd0
  have HDI := Lib.hid hi
  have HBH := Lib.hid hB
  have hgl := hB.lt
  have heq1 : ∀ W, (Op.equalIn 10000 104 (.agg (mcL s).toArray) (.agg (mcL d.k).toArray)).run Tryz.prog W = .ok (mcEq s d.k) W := fun W => eq_mac 9998 s d.k W
  have heq2 : ∀ W, (Op.equalIn 10000 104 (.agg (mcL k).toArray) (.agg (mcL d.m).toArray)).run Tryz.prog W = .ok (mcEq k d.m) W := fun W => eq_mac 9998 k d.m W
  have hRG := readF_G d.m (k, s, ty, d0)
  obtain ⟨O, hO⟩ : ∃ O, readG (k, s, ty, d0) = O := ⟨_, rfl⟩
  rw [hO] at RD hRG
  obtain ⟨e1, he1⟩ : ∃ b, mcEq s d.k = b := ⟨_, rfl⟩
  obtain ⟨e2, he2⟩ : ∃ b, mcEq k d.m = b := ⟨_, rfl⟩
  rw [he1] at heq1
  rw [he2] at heq2
  simp only [he2] at hRG
  obtain ⟨k1, k2, k3, k4, k5, k6⟩ := k
  obtain ⟨s1, s2, s3, s4, s5, s6⟩ := s
  unfold mcL at heq1 heq2
  simp only at heq1 heq2
  have HE1 := Lib.hid he1
  have HRG := Lib.hid hRG
  have HEQ1 := Lib.hid heq1
  unfold ethC at RD ⊢
  simp only at RD ⊢
  have hF := (Fr.refl [] w).alloc (.cells #[.int .u8 k1, .int .u8 k2, .int .u8 k3, .int .u8 k4, .int .u8 k5, .int .u8 k6, .int .u8 s1, .int .u8 s2, .int .u8 s3, .int .u8 s4, .int .u8 s5, .int .u8 s6, .int .i64 ty, .string (B d0)] 113 (0, 0))
  have hN := Blk.new w #[.int .u8 k1, .int .u8 k2, .int .u8 k3, .int .u8 k4, .int .u8 k5, .int .u8 k6, .int .u8 s1, .int .u8 s2, .int .u8 s3, .int .u8 s4, .int .u8 s5, .int .u8 s6, .int .i64 ty, .string (B d0)] 113
  clear hi hB he1 he2 hO hRG hd0 heq1
  go_enter Tryz.func61, Tryz.ntmps61
  go_wp2_with fail
  refine (RD.out _).mono ?_
  cases O with
  | none =>
    rintro e w4 ⟨c, ss, d1, rfl, hF4⟩
    have HDN := Lib.hid (dTake_none (d := d) (f := (⟨k1, k2, k3, k4, k5, k6⟩, ⟨s1, s2, s3, s4, s5, s6⟩, ty, d0)) (by rw [HRG.out]; split <;> rfl))
    have HF5 := Lib.hid ((hF.trans hF4).alloc (.cells #[.int .i64 c, .int .i64 ss, .string (B d1)] 259 (0, 0)))
    have HN4 := Lib.hid (hF4.blk hN (by simp))
    clear hF hN hF4 RD HRG
    go_wp2_with fail
    obtain ⟨q, hq⟩ : ∃ q, w.heap.size = q := ⟨_, rfl⟩
    obtain ⟨w5, hw5⟩ : ∃ V, w4.alloc (.cells #[.int .i64 c, .int .i64 ss, .string (B d1)] 259 (0, 0)) = V := ⟨_, rfl⟩
    (try rw [hq])
    rw [hw5] at HF5 ⊢
    clear hq hw5
    have HX : Hid (∀ W, Fr [] w5 W → (fun W => True ∧ Fr [] w5 W) W) := Lib.hid fun W hW => ⟨trivial, hW⟩
    refine wp_region_held_drew (S := (fun W => True ∧ Fr [] w5 W)) (by kernel_rfl) ?_ (fun hHeld => ?_)
    · (try dsimp only); exact HX.out _ (Fr.refl [] w5).drew
    refine take_yes 0 21 rfl rfl (by kernel_rfl) (by kernel_rfl) (by kernel_rfl) (fun _ _ _ h => h) (by rfl) (by assumption) (v := ?_) ?_ ?_
    rotate_left
    · intro w hSw; (try dsimp only at hSw); go_simp; (try with_reducible rfl)
    try simp only [Act.put, List.setIfInBounds_toArray, List.set_cons_zero, List.set_cons_succ]
    refine take_yes 1 22 rfl rfl (by kernel_rfl) (by kernel_rfl) (by kernel_rfl) (fun _ _ _ h => h) (by rfl) (by assumption) (v := .bool true) ?_ ?_
    · intro w hSw; (try dsimp only at hSw); go_simp
    try simp only [Act.put, List.setIfInBounds_toArray, List.set_cons_zero, List.set_cons_succ]
    refine take_yes 2 23 rfl rfl (by kernel_rfl) (by kernel_rfl) (by kernel_rfl) (fun _ _ _ h => h) (by rfl) (by assumption) (v := ?_) ?_ ?_
    rotate_left
    · intro w hSw; (try dsimp only at hSw); go_simp; (try with_reducible rfl)
    try simp only [Act.put, List.setIfInBounds_toArray, List.set_cons_zero, List.set_cons_succ]
    refine take_no 3 24 rfl rfl (by kernel_rfl) (by kernel_rfl) (by kernel_rfl) (fun _ _ _ h => h) (by rfl) (by assumption) ?_
    try simp only [Act.put, List.setIfInBounds_toArray, List.set_cons_zero, List.set_cons_succ]
    refine take_no 4 25 rfl rfl (by kernel_rfl) (by kernel_rfl) (by kernel_rfl) (fun _ _ _ h => h) (by rfl) (by assumption) ?_
    try simp only [Act.put, List.setIfInBounds_toArray, List.set_cons_zero, List.set_cons_succ]
    refine take_no 5 26 rfl rfl (by kernel_rfl) (by kernel_rfl) (by kernel_rfl) (fun _ _ _ h => h) (by rfl) (by assumption) ?_
    try simp only [Act.put, List.setIfInBounds_toArray, List.set_cons_zero, List.set_cons_succ]
    refine take_no 6 27 rfl rfl (by kernel_rfl) (by kernel_rfl) (by kernel_rfl) (fun _ _ _ h => h) (by rfl) (by assumption) ?_
    try simp only [Act.put, List.setIfInBounds_toArray, List.set_cons_zero, List.set_cons_succ]
    refine take_no 7 28 rfl rfl (by kernel_rfl) (by kernel_rfl) (by kernel_rfl) (fun _ _ _ h => h) (by rfl) (by assumption) ?_
    try simp only [Act.put, List.setIfInBounds_toArray, List.set_cons_zero, List.set_cons_succ]
    refine take_no 8 29 rfl rfl (by kernel_rfl) (by kernel_rfl) (by kernel_rfl) (fun _ _ _ h => h) (by rfl) (by assumption) ?_
    try simp only [Act.put, List.setIfInBounds_toArray, List.set_cons_zero, List.set_cons_succ]
    refine take_no 9 30 rfl rfl (by kernel_rfl) (by kernel_rfl) (by kernel_rfl) (fun _ _ _ h => h) (by rfl) (by assumption) ?_
    try simp only [Act.put, List.setIfInBounds_toArray, List.set_cons_zero, List.set_cons_succ]
    refine take_yes 10 31 rfl rfl (by kernel_rfl) (by kernel_rfl) (by kernel_rfl) (fun _ _ _ h => h) (by rfl) (by assumption) (v := ?_) ?_ ?_
    rotate_left
    · intro w hSw; (try dsimp only at hSw); go_simp; (try with_reducible rfl)
    try simp only [Act.put, List.setIfInBounds_toArray, List.set_cons_zero, List.set_cons_succ]
    refine wpAnyH_done (by kernel_rfl) ?_ _
    have HZ := Lib.hid (show Fr [] w w5.drew from HF5.out.trans (And.right (by assumption)))
    go_wp2_with fail
    go_ret
    rw [HDN.out]
    exact ⟨OutP.none_ (HZ.out.mono (by simp)), HZ.out.blk HBH.out (by simp)⟩
  | some x =>
    obtain ⟨c, ss, l⟩ := x
    rintro e w4 ⟨d1, A, cap, rfl, hown4, hF4⟩
    have hF5 := hF4.alloc (.cells #[.int .i64 c, .int .i64 ss, .string (B d1)] 259 (0, 0))
    have HF5 := Lib.hid (hF.trans hF5)
    have HN5 := Lib.hid (hF5.blk hN (by simp))
    have HOW5 := Lib.hid (rown_frS hown4 ((Fr.refl [] w4).alloc (.cells #[.int .i64 c, .int .i64 ss, .string (B d1)] 259 (0, 0))) (by simp))
    have HD5 := Lib.hid (Blk.new w4 #[.int .i64 c, .int .i64 ss, .string (B d1)] 259)
    clear hF hN hF4 RD hF5 hown4
    go_wp2_with fail
    obtain ⟨q, hq⟩ : ∃ q, w.heap.size = q := ⟨_, rfl⟩
    obtain ⟨qd, hqd⟩ : ∃ q, w4.heap.size = q := ⟨_, rfl⟩
    obtain ⟨w5, hw5⟩ : ∃ V, w4.alloc (.cells #[.int .i64 c, .int .i64 ss, .string (B d1)] 259 (0, 0)) = V := ⟨_, rfl⟩
    (try rw [hq])
    (try rw [hqd])
    rw [hq] at HN5
    rw [hqd] at HD5
    rw [hw5] at HF5 HN5 HOW5 HD5 ⊢
    clear hq hqd hw5
    have HX : Hid (∀ W, Fr [] w5 W → (fun W => (W.cell? ⟨q, 0, none⟩ = some (.int .u8 k1) ∧ W.cell? ⟨q, 1, none⟩ = some (.int .u8 k2) ∧ W.cell? ⟨q, 2, none⟩ = some (.int .u8 k3) ∧ W.cell? ⟨q, 3, none⟩ = some (.int .u8 k4) ∧ W.cell? ⟨q, 4, none⟩ = some (.int .u8 k5) ∧ W.cell? ⟨q, 5, none⟩ = some (.int .u8 k6) ∧ W.cell? ⟨g, 0, none⟩ = some (.int .u8 d.m.a) ∧ W.cell? ⟨g, 1, none⟩ = some (.int .u8 d.m.b) ∧ W.cell? ⟨g, 2, none⟩ = some (.int .u8 d.m.c) ∧ W.cell? ⟨g, 3, none⟩ = some (.int .u8 d.m.d) ∧ W.cell? ⟨g, 4, none⟩ = some (.int .u8 d.m.e) ∧ W.cell? ⟨g, 5, none⟩ = some (.int .u8 d.m.f)) ∧ Fr [] w5 W) W) := Lib.hid fun W hW => by
      have hb := hW.blk HN5.out (by simp)
      have hh := (HF5.out.trans hW).blk HBH.out (by simp)
      exact ⟨⟨hb.c 0 _ rfl, hb.c 1 _ rfl, hb.c 2 _ rfl, hb.c 3 _ rfl, hb.c 4 _ rfl, hb.c 5 _ rfl, hh.c 0 _ rfl, hh.c 1 _ rfl, hh.c 2 _ rfl, hh.c 3 _ rfl, hh.c 4 _ rfl, hh.c 5 _ rfl⟩, hW⟩
    cases e2 with
    | false =>
      have HDN := Lib.hid (dTake_none (d := d) (f := (⟨k1, k2, k3, k4, k5, k6⟩, ⟨s1, s2, s3, s4, s5, s6⟩, ty, d0)) (by rw [HRG.out]; rfl))
      clear HRG
      refine wp_region_held_drew (S := (fun W => (W.cell? ⟨q, 0, none⟩ = some (.int .u8 k1) ∧ W.cell? ⟨q, 1, none⟩ = some (.int .u8 k2) ∧ W.cell? ⟨q, 2, none⟩ = some (.int .u8 k3) ∧ W.cell? ⟨q, 3, none⟩ = some (.int .u8 k4) ∧ W.cell? ⟨q, 4, none⟩ = some (.int .u8 k5) ∧ W.cell? ⟨q, 5, none⟩ = some (.int .u8 k6) ∧ W.cell? ⟨g, 0, none⟩ = some (.int .u8 d.m.a) ∧ W.cell? ⟨g, 1, none⟩ = some (.int .u8 d.m.b) ∧ W.cell? ⟨g, 2, none⟩ = some (.int .u8 d.m.c) ∧ W.cell? ⟨g, 3, none⟩ = some (.int .u8 d.m.d) ∧ W.cell? ⟨g, 4, none⟩ = some (.int .u8 d.m.e) ∧ W.cell? ⟨g, 5, none⟩ = some (.int .u8 d.m.f)) ∧ Fr [] w5 W)) (by kernel_rfl) ?_ (fun hHeld => ?_)
      · (try dsimp only); exact HX.out _ (Fr.refl [] w5).drew
      refine take_yes 0 21 rfl rfl (by kernel_rfl) (by kernel_rfl) (by kernel_rfl) (fun _ _ _ h => h) (by rfl) (by assumption) (v := ?_) ?_ ?_
      rotate_left
      · intro w hSw; (try dsimp only at hSw); go_simp; (try with_reducible rfl)
      try simp only [Act.put, List.setIfInBounds_toArray, List.set_cons_zero, List.set_cons_succ]
      refine take_yes 1 22 rfl rfl (by kernel_rfl) (by kernel_rfl) (by kernel_rfl) (fun _ _ _ h => h) (by rfl) (by assumption) (v := .bool false) ?_ ?_
      · intro w hSw; (try dsimp only at hSw); go_simp
      try simp only [Act.put, List.setIfInBounds_toArray, List.set_cons_zero, List.set_cons_succ]
      refine take_yes 2 23 rfl rfl (by kernel_rfl) (by kernel_rfl) (by kernel_rfl) (fun _ _ _ h => h) (by rfl) (by assumption) (v := ?_) ?_ ?_
      rotate_left
      · intro w hSw; (try dsimp only at hSw); go_simp; (try with_reducible rfl)
      try simp only [Act.put, List.setIfInBounds_toArray, List.set_cons_zero, List.set_cons_succ]
      refine take_yes 3 24 rfl rfl (by kernel_rfl) (by kernel_rfl) (by kernel_rfl) (fun _ _ _ h => h) (by rfl) (by assumption) (v := ?_) ?_ ?_
      rotate_left
      · intro w hSw; (try dsimp only at hSw); go_simp; (try with_reducible rfl)
      try simp only [Act.put, List.setIfInBounds_toArray, List.set_cons_zero, List.set_cons_succ]
      refine take_yes 4 25 rfl rfl (by kernel_rfl) (by kernel_rfl) (by kernel_rfl) (fun _ _ _ h => h) (by rfl) (by assumption) (v := ?_) ?_ ?_
      rotate_left
      · intro w hSw; (try dsimp only at hSw); go_simp; (try with_reducible rfl)
      try simp only [Act.put, List.setIfInBounds_toArray, List.set_cons_zero, List.set_cons_succ]
      refine take_yes 5 26 rfl rfl (by kernel_rfl) (by kernel_rfl) (by kernel_rfl) (fun _ _ _ h => h) (by rfl) (by assumption) (v := ?_) ?_ ?_
      rotate_left
      · intro w hSw; (try dsimp only at hSw); go_simp; (try with_reducible rfl)
      try simp only [Act.put, List.setIfInBounds_toArray, List.set_cons_zero, List.set_cons_succ]
      refine take_yes 6 27 rfl rfl (by kernel_rfl) (by kernel_rfl) (by kernel_rfl) (fun _ _ _ h => h) (by rfl) (by assumption) (v := ?_) ?_ ?_
      rotate_left
      · intro w hSw; (try dsimp only at hSw); go_simp; (try with_reducible rfl)
      try simp only [Act.put, List.setIfInBounds_toArray, List.set_cons_zero, List.set_cons_succ]
      refine take_yes 7 28 rfl rfl (by kernel_rfl) (by kernel_rfl) (by kernel_rfl) (fun _ _ _ h => h) (by rfl) (by assumption) (v := ?_) ?_ ?_
      rotate_left
      · intro w hSw; (try dsimp only at hSw); go_simp; (try with_reducible rfl)
      try simp only [Act.put, List.setIfInBounds_toArray, List.set_cons_zero, List.set_cons_succ]
      refine take_yes 8 29 rfl rfl (by kernel_rfl) (by kernel_rfl) (by kernel_rfl) (fun _ _ _ h => h) (by rfl) (by assumption) (v := ?_) ?_ ?_
      rotate_left
      · intro w hSw; (try dsimp only at hSw); go_simp; (try with_reducible rfl)
      try simp only [Act.put, List.setIfInBounds_toArray, List.set_cons_zero, List.set_cons_succ]
      refine take_yes 9 30 rfl rfl (by kernel_rfl) (by kernel_rfl) (by kernel_rfl) (fun _ _ _ h => h) (by rfl) (by assumption) (v := .bool true) ?_ ?_
      · intro w hSw; (try dsimp only at hSw); go_simp
      try simp only [Act.put, List.setIfInBounds_toArray, List.set_cons_zero, List.set_cons_succ]
      refine take_yes 10 31 rfl rfl (by kernel_rfl) (by kernel_rfl) (by kernel_rfl) (fun _ _ _ h => h) (by rfl) (by assumption) (v := ?_) ?_ ?_
      rotate_left
      · intro w hSw; (try dsimp only at hSw); go_simp; (try with_reducible rfl)
      try simp only [Act.put, List.setIfInBounds_toArray, List.set_cons_zero, List.set_cons_succ]
      refine wpAnyH_done (by kernel_rfl) ?_ _
      have HZ := Lib.hid (show Fr [] w w5.drew from HF5.out.trans (And.right (by assumption)))
      go_wp2_with fail
      go_ret
      rw [HDN.out]
      exact ⟨OutP.none_ (HZ.out.mono (by simp)), HZ.out.blk HBH.out (by simp)⟩
    | true =>
      have hRS : readF d.m (⟨k1, k2, k3, k4, k5, k6⟩, ⟨s1, s2, s3, s4, s5, s6⟩, ty, d0) = some (c, ss, l) := by rw [HRG.out]; rfl
      have HPT : Hid (dTake d (⟨k1, k2, k3, k4, k5, k6⟩, ⟨s1, s2, s3, s4, s5, s6⟩, ty, d0) = dGot d ⟨s1, s2, s3, s4, s5, s6⟩ c ss l) := Lib.hid (dTake_some hRS)
      have HBD := Lib.hid (readF_bd hRS)
      clear HRG hRS
      refine wp_region_held_drew (S := (fun W => (W.cell? ⟨q, 0, none⟩ = some (.int .u8 k1) ∧ W.cell? ⟨q, 1, none⟩ = some (.int .u8 k2) ∧ W.cell? ⟨q, 2, none⟩ = some (.int .u8 k3) ∧ W.cell? ⟨q, 3, none⟩ = some (.int .u8 k4) ∧ W.cell? ⟨q, 4, none⟩ = some (.int .u8 k5) ∧ W.cell? ⟨q, 5, none⟩ = some (.int .u8 k6) ∧ W.cell? ⟨g, 0, none⟩ = some (.int .u8 d.m.a) ∧ W.cell? ⟨g, 1, none⟩ = some (.int .u8 d.m.b) ∧ W.cell? ⟨g, 2, none⟩ = some (.int .u8 d.m.c) ∧ W.cell? ⟨g, 3, none⟩ = some (.int .u8 d.m.d) ∧ W.cell? ⟨g, 4, none⟩ = some (.int .u8 d.m.e) ∧ W.cell? ⟨g, 5, none⟩ = some (.int .u8 d.m.f)) ∧ Fr [] w5 W)) (by kernel_rfl) ?_ (fun hHeld => ?_)
      · (try dsimp only); exact HX.out _ (Fr.refl [] w5).drew
      refine take_yes 0 21 rfl rfl (by kernel_rfl) (by kernel_rfl) (by kernel_rfl) (fun _ _ _ h => h) (by rfl) (by assumption) (v := ?_) ?_ ?_
      rotate_left
      · intro w hSw; (try dsimp only at hSw); go_simp; (try with_reducible rfl)
      try simp only [Act.put, List.setIfInBounds_toArray, List.set_cons_zero, List.set_cons_succ]
      refine take_yes 1 22 rfl rfl (by kernel_rfl) (by kernel_rfl) (by kernel_rfl) (fun _ _ _ h => h) (by rfl) (by assumption) (v := .bool false) ?_ ?_
      · intro w hSw; (try dsimp only at hSw); go_simp
      try simp only [Act.put, List.setIfInBounds_toArray, List.set_cons_zero, List.set_cons_succ]
      refine take_yes 2 23 rfl rfl (by kernel_rfl) (by kernel_rfl) (by kernel_rfl) (fun _ _ _ h => h) (by rfl) (by assumption) (v := ?_) ?_ ?_
      rotate_left
      · intro w hSw; (try dsimp only at hSw); go_simp; (try with_reducible rfl)
      try simp only [Act.put, List.setIfInBounds_toArray, List.set_cons_zero, List.set_cons_succ]
      refine take_yes 3 24 rfl rfl (by kernel_rfl) (by kernel_rfl) (by kernel_rfl) (fun _ _ _ h => h) (by rfl) (by assumption) (v := ?_) ?_ ?_
      rotate_left
      · intro w hSw; (try dsimp only at hSw); go_simp; (try with_reducible rfl)
      try simp only [Act.put, List.setIfInBounds_toArray, List.set_cons_zero, List.set_cons_succ]
      refine take_yes 4 25 rfl rfl (by kernel_rfl) (by kernel_rfl) (by kernel_rfl) (fun _ _ _ h => h) (by rfl) (by assumption) (v := ?_) ?_ ?_
      rotate_left
      · intro w hSw; (try dsimp only at hSw); go_simp; (try with_reducible rfl)
      try simp only [Act.put, List.setIfInBounds_toArray, List.set_cons_zero, List.set_cons_succ]
      refine take_yes 5 26 rfl rfl (by kernel_rfl) (by kernel_rfl) (by kernel_rfl) (fun _ _ _ h => h) (by rfl) (by assumption) (v := ?_) ?_ ?_
      rotate_left
      · intro w hSw; (try dsimp only at hSw); go_simp; (try with_reducible rfl)
      try simp only [Act.put, List.setIfInBounds_toArray, List.set_cons_zero, List.set_cons_succ]
      refine take_yes 6 27 rfl rfl (by kernel_rfl) (by kernel_rfl) (by kernel_rfl) (fun _ _ _ h => h) (by rfl) (by assumption) (v := ?_) ?_ ?_
      rotate_left
      · intro w hSw; (try dsimp only at hSw); go_simp; (try with_reducible rfl)
      try simp only [Act.put, List.setIfInBounds_toArray, List.set_cons_zero, List.set_cons_succ]
      refine take_yes 7 28 rfl rfl (by kernel_rfl) (by kernel_rfl) (by kernel_rfl) (fun _ _ _ h => h) (by rfl) (by assumption) (v := ?_) ?_ ?_
      rotate_left
      · intro w hSw; (try dsimp only at hSw); go_simp; (try with_reducible rfl)
      try simp only [Act.put, List.setIfInBounds_toArray, List.set_cons_zero, List.set_cons_succ]
      refine take_yes 8 29 rfl rfl (by kernel_rfl) (by kernel_rfl) (by kernel_rfl) (fun _ _ _ h => h) (by rfl) (by assumption) (v := ?_) ?_ ?_
      rotate_left
      · intro w hSw; (try dsimp only at hSw); go_simp; (try with_reducible rfl)
      try simp only [Act.put, List.setIfInBounds_toArray, List.set_cons_zero, List.set_cons_succ]
      refine take_yes 9 30 rfl rfl (by kernel_rfl) (by kernel_rfl) (by kernel_rfl) (fun _ _ _ h => h) (by rfl) (by assumption) (v := .bool false) ?_ ?_
      · intro w hSw; (try dsimp only at hSw); go_simp
      try simp only [Act.put, List.setIfInBounds_toArray, List.set_cons_zero, List.set_cons_succ]
      refine take_yes 10 31 rfl rfl (by kernel_rfl) (by kernel_rfl) (by kernel_rfl) (fun _ _ _ h => h) (by rfl) (by assumption) (v := ?_) ?_ ?_
      rotate_left
      · intro w hSw; (try dsimp only at hSw); go_simp; (try with_reducible rfl)
      try simp only [Act.put, List.setIfInBounds_toArray, List.set_cons_zero, List.set_cons_succ]
      refine wpAnyH_done (by kernel_rfl) ?_ _
      have HV6 := Lib.hid (show Fr [] w5 w5.drew from And.right (by assumption))
      obtain ⟨w6, hw6⟩ : ∃ V, w5.drew = V := ⟨_, rfl⟩
      rw [hw6] at HV6 ⊢
      clear hw6 HX heq2
      have FD := Lib.hid fun W (hW : Fr [] w5 W) (kk : Int) => dfind_any kk (TgAt.of_own (rown_frS HOW5.out hW (by simp))) HBD.out.2.1 (own_caps HOW5.out).1 (own_caps HOW5.out).2
      have FU := Lib.hid (FD.out _ HV6.out 259)
      have HUN : Hid (∀ W, Fr [] w5 W → W.cell? ⟨g, 7, none⟩ = some (.string (B d.un))) := Lib.hid fun W hW => ((HF5.out.trans hW).blk HBH.out (by simp)).c 7 _ rfl
      obtain ⟨n, hn⟩ : ∃ n, findN l 259 = n := ⟨_, rfl⟩
      obtain ⟨sx, hs⟩ : ∃ s, findS l 259 = s := ⟨_, rfl⟩
      rw [hn, hs] at FU
      have HNS := Lib.hid (And.intro hn hs)
      clear hn hs
      go_wp2_with fail
      refine FU.out.mono ?_
      rintro e w7 ⟨rfl, hF7⟩
      have HF7 := Lib.hid (HV6.out.trans hF7)
      clear hF7 FU
      go_upto_region 5 with fail
      go_cut [10] (fun mv wx => mv = .bool (mineB d.un l) ∧ Fr [] w5 wx)
      case first =>
        have hn20 := findN_le l 259
        have hl20 := HBD.out.2.1
        have d7 := HUN.out _ HF7.out
        obtain ⟨un, hun⟩ : ∃ x, d.un = x := ⟨_, rfl⟩
        rw [hun] at d7
        obtain ⟨hn, hs⟩ := HNS.out
        rw [hn] at hn20
        by_cases hu : un = []
        · have HMV := Lib.hid (show mineB d.un l = true from by rw [hun, hu, mineB_nil])
          subst hu
          have hb : (B [] == ⟨#[]⟩) = true := rfl
          clear hun hn hs hn20 hl20
          go_wp2_with fail
          go_meet
          exact ⟨by rw [HMV.out], HF7.out⟩
        obtain ⟨hne, hie⟩ := ne_nil_B hu
        by_cases hz : n = 0
        · have HMV := Lib.hid (show mineB d.un l = false from by rw [hun, mineB_none hu (by rw [hn]; exact hz)])
          subst hz
          clear hun hn hs hn20 hl20 hu
          go_wp2_with fail
          go_meet
          exact ⟨by rw [HMV.out], HF7.out⟩
        have hMV : mineB d.un l = decide (sx = un) := by rw [hun, mineB_some hu (by omega), hs]
        have hni : (0 : Int) < n := by omega
        have hnb : (n : Int) ≤ 20 := by omega
        by_cases he : sx = un
        · have HMV := Lib.hid (hMV.trans (decide_eq_true he))
          subst he
          clear hun hn hs hn20 hl20 hu hz hMV
          go_wp2_with fail
          go_meet
          exact ⟨by rw [HMV.out], HF7.out⟩
        · have HMV := Lib.hid (hMV.trans (decide_eq_false he))
          have he2 : ¬ B sx = B un := fun e => he (by have := congrArg (fun x : ByteArray => x.toList) e; simpa [B_toList] using this)
          have he3 : (B sx == B un) = false := by
            show ((B sx).data == (B un).data) = false
            rw [beq_eq_false_iff_ne]
            exact fun h => he2 (ByteArray.ext h)
          have he4 : (sx == un) = false := by rw [beq_eq_false_iff_ne]; exact he
          clear hun hn hs hn20 hl20 hu hz hMV
          go_wp2_with fail
          go_meet
          exact ⟨by rw [HMV.out], HF7.out⟩
      case rest =>
        obtain ⟨rfl, hFcut⟩ := hcut
        obtain ⟨wA, rfl⟩ : ∃ x, x = wc := ⟨_, rfl⟩
        have HFc := Lib.hid hFcut
        have HFC := Lib.hid (HF5.out.trans hFcut)
        have HBC : Hid (∀ W, Fr [] wA W → Blk W g (dhC d) 254) := Lib.hid fun W hW => (HFC.out.trans hW).blk HBH.out (by simp)
        have HNC : Hid (∀ W, Fr [] wA W → Blk W q #[.int .u8 k1, .int .u8 k2, .int .u8 k3, .int .u8 k4, .int .u8 k5, .int .u8 k6, .int .u8 s1, .int .u8 s2, .int .u8 s3, .int .u8 s4, .int .u8 s5, .int .u8 s6, .int .i64 ty, .string (B d0)] 113) := Lib.hid fun W hW => (HFc.out.trans hW).blk HN5.out (by simp)
        have HDC : Hid (∀ W, Fr [] wA W → Blk W qd #[.int .i64 c, .int .i64 ss, .string (B d1)] 259) := Lib.hid fun W hW => (HFc.out.trans hW).blk HD5.out (by simp)
        have HOC : Hid (∀ W, Fr [] wA W → W.ownsRow 0 272 2 (.slice A l.length cap) l.length (tgF l)) := Lib.hid fun W hW => rown_frS HOW5.out (HFc.out.trans hW) (by simp)
        have HCX : Hid (∀ W, Fr [] wA W → (fun W => (W.cell? ⟨g, 10, none⟩ = some (.int .i64 d.st) ∧ W.cell? ⟨g, 11, none⟩ = some (.int .i64 d.ss) ∧ W.cell? ⟨qd, 0, none⟩ = some (.int .i64 c) ∧ W.cell? ⟨qd, 1, none⟩ = some (.int .i64 ss) ∧ W.cell? ⟨q, 6, none⟩ = some (.int .u8 s1) ∧ W.cell? ⟨q, 7, none⟩ = some (.int .u8 s2) ∧ W.cell? ⟨q, 8, none⟩ = some (.int .u8 s3) ∧ W.cell? ⟨q, 9, none⟩ = some (.int .u8 s4) ∧ W.cell? ⟨q, 10, none⟩ = some (.int .u8 s5) ∧ W.cell? ⟨q, 11, none⟩ = some (.int .u8 s6) ∧ W.cell? ⟨g, 12, none⟩ = some (.int .u8 d.k.a) ∧ W.cell? ⟨g, 13, none⟩ = some (.int .u8 d.k.b) ∧ W.cell? ⟨g, 14, none⟩ = some (.int .u8 d.k.c) ∧ W.cell? ⟨g, 15, none⟩ = some (.int .u8 d.k.d) ∧ W.cell? ⟨g, 16, none⟩ = some (.int .u8 d.k.e) ∧ W.cell? ⟨g, 17, none⟩ = some (.int .u8 d.k.f)) ∧ Fr [] wA W) W) := Lib.hid fun W hW => by
          have hb := HNC.out W hW
          have hh := HBC.out W hW
          have hd := HDC.out W hW
          exact ⟨⟨hh.c 10 _ rfl, hh.c 11 _ rfl, hd.c 0 _ rfl, hd.c 1 _ rfl, hb.c 6 _ rfl, hb.c 7 _ rfl, hb.c 8 _ rfl, hb.c 9 _ rfl, hb.c 10 _ rfl, hb.c 11 _ rfl, hh.c 12 _ rfl, hh.c 13 _ rfl, hh.c 14 _ rfl, hh.c 15 _ rfl, hh.c 16 _ rfl, hh.c 17 _ rfl⟩, hW⟩
        obtain ⟨⟨x10, _, z0, z1, _⟩, _⟩ := HCX.out _ (Fr.refl [] wA)
        obtain ⟨mn, hmn⟩ : ∃ b, mineB d.un l = b := ⟨_, rfl⟩
        rw [hmn]
        have HMN := Lib.hid hmn
        have heq1 := HEQ1.out
        have FDC := Lib.hid fun W (hW : Fr [] wA W) (kk : Int) => dfind_any kk (TgAt.of_own (HOC.out W hW)) HBD.out.2.1 (own_caps HOW5.out).1 (own_caps HOW5.out).2
        clear hFcut FD HUN HV6 HF7 hmn
        go_upto_region 6 with fail
        go_cut [54] (fun v wx => v = .bool (decide (d.st = 1 ∧ c = 7 ∧ ss = 0)) ∧ wx = wA)
        case first =>
          as_aux_lemma =>
            clear heq1
            by_cases h1 : d.st = 1
            · have q1 : (d.st == 1) = true := by simpa using h1
              by_cases h2 : c = 7
              · have q2 : (c == 7) = true := by simpa using h2
                by_cases h3 : ss = 0
                · have q3 : (ss == 0) = true := by simpa using h3
                  have HV := Lib.hid (show decide (d.st = 1 ∧ c = 7 ∧ ss = 0) = true from decide_eq_true ⟨h1, h2, h3⟩)
                  clear h1 h2 h3
                  go_wp2_with fail
                  go_meet
                  exact ⟨by rw [HV.out], rfl⟩
                · have q3 : (ss == 0) = false := by rw [beq_eq_false_iff_ne]; exact h3
                  have HV := Lib.hid (show decide (d.st = 1 ∧ c = 7 ∧ ss = 0) = false from decide_eq_false (fun hh => h3 hh.2.2))
                  clear h1 h2 h3
                  go_wp2_with fail
                  go_meet
                  exact ⟨by rw [HV.out], rfl⟩
              · have q2 : (c == 7) = false := by rw [beq_eq_false_iff_ne]; exact h2
                have HV := Lib.hid (show decide (d.st = 1 ∧ c = 7 ∧ ss = 0) = false from decide_eq_false (fun hh => h2 hh.2.1))
                clear h1 h2
                go_wp2_with fail
                go_meet
                exact ⟨by rw [HV.out], rfl⟩
            · have q1 : (d.st == 1) = false := by rw [beq_eq_false_iff_ne]; exact h1
              have HV := Lib.hid (show decide (d.st = 1 ∧ c = 7 ∧ ss = 0) = false from decide_eq_false (fun hh => h1 hh.1))
              clear h1
              go_wp2_with fail
              go_meet
              exact ⟨by rw [HV.out], rfl⟩
        case rest =>
          obtain ⟨rfl, hwA⟩ := hcut
          rw [hwA]
          clear hwA
          by_cases hA : d.st = 1 ∧ c = 7 ∧ ss = 0
          · rw [decide_eq_true hA]
            have h1 : d.st = 1 := hA.1
            have HGT : Hid (dGot d ⟨s1, s2, s3, s4, s5, s6⟩ c ss l = if offB d.sv l = true ∧ mineB d.un l = true then (dChosen d ⟨s1, s2, s3, s4, s5, s6⟩ l, dSayL (dChosen d ⟨s1, s2, s3, s4, s5, s6⟩ l)) else (d, [])) := Lib.hid (by unfold dGot; rw [if_pos hA])
            clear hA heq1 h1
            go_wp2_with fail
            have hcap := own_caps HOW5.out
            have hlen := HBD.out.2.1
            have hcm := hcap.2
            unfold maxLen at hcm
            have hcl := hcap.1
            clear hcap
            go_loopw [11, 12] (fun ov iv wr => ∃ j : Nat, j ≤ l.length ∧ iv = .int .i64 j ∧ ov = .bool (offB d.sv (l.take j)) ∧ Fr [] wA wr) (fun _ iv _ => l.length - (intOf iv).toNat)
            case atStart => exact ⟨0, Nat.zero_le _, rfl, rfl, Fr.refl _ _⟩
            case round =>
              obtain ⟨j, hj, rfl, rfl, hFr⟩ := hrel
              have HFR := Lib.hid hFr
              clear hFr
              by_cases hjl : j < l.length
              · obtain ⟨⟨t, sx⟩, ht⟩ : ∃ t, l[j]? = some t := ⟨_, List.getElem?_eq_getElem hjl⟩
                obtain ⟨b, off, hAe, hb, hcell⟩ := TgAt.of_own (HOC.out _ (Fr.refl [] wA)) j _ ht
                subst hAe
                have HC := Lib.hid hcell
                obtain ⟨sv, hsv⟩ : ∃ x, d.sv = x := ⟨_, rfl⟩
                have HSV := Lib.hid hsv
                clear hsv
                have hjb : (j : Int) ≤ 20 := by omega
                have hmem : ∀ x : Tg, x ∈ l.take (j + 1) ↔ x ∈ l.take j ∨ x = (t, sx) := fun x => by rw [List.take_add_one, ht]; simp
                have HM := Lib.hid hmem
                clear hcell hb ht hmem
                cases hoff : offB d.sv (l.take j) with
                | true =>
                  have hin : (257, d.sv) ∈ l.take j := of_decide_eq_true hoff
                  as_aux_lemma =>
                    have HXR : Hid (∀ W, Fr [] wr W → (fun W => (W.cell? ⟨b, off + j * 2, none⟩ = some (.int .i64 t) ∧ W.cell? ⟨b, off + j * 2 + 1, none⟩ = some (.string (B sx)) ∧ W.cell? ⟨g, 6, none⟩ = some (.string (B sv))) ∧ Fr [] wr W) W) := Lib.hid fun W hW => ⟨⟨(HC.out W (HFR.out.trans hW)).1, (HC.out W (HFR.out.trans hW)).2, (by have := (HBC.out W (HFR.out.trans hW)).c 6 (.string (B d.sv)) rfl; rw [HSV.out] at this; exact this)⟩, hW⟩
                    have HNX : Hid (offB d.sv (l.take (j + 1)) = true) := Lib.hid (by exact decide_eq_true ((HM.out _).2 (Or.inl hin)))
                    clear hin hoff
                    go_wp2_with fail
                    refine wp_region_held_drew (S := (fun W => (W.cell? ⟨b, off + j * 2, none⟩ = some (.int .i64 t) ∧ W.cell? ⟨b, off + j * 2 + 1, none⟩ = some (.string (B sx)) ∧ W.cell? ⟨g, 6, none⟩ = some (.string (B sv))) ∧ Fr [] wr W)) (by kernel_rfl) ?_ (fun hHeld => ?_)
                    · (try dsimp only); exact HXR.out _ (Fr.refl [] wr).drew
                    refine take_yes 0 76 rfl rfl (by kernel_rfl) (by kernel_rfl) (by kernel_rfl) (fun _ _ _ h => h) (by rfl) (by assumption) (v := ?_) ?_ ?_
                    rotate_left
                    · intro w hSw; (try dsimp only at hSw); go_simp; (try with_reducible rfl)
                    try simp only [Act.put, List.setIfInBounds_toArray, List.set_cons_zero, List.set_cons_succ]
                    refine take_yes 1 77 rfl rfl (by kernel_rfl) (by kernel_rfl) (by kernel_rfl) (fun _ _ _ h => h) (by rfl) (by assumption) (v := ?_) ?_ ?_
                    rotate_left
                    · intro w hSw; (try dsimp only at hSw); go_simp; (try with_reducible rfl)
                    try simp only [Act.put, List.setIfInBounds_toArray, List.set_cons_zero, List.set_cons_succ]
                    refine take_no 2 78 rfl rfl (by kernel_rfl) (by kernel_rfl) (by kernel_rfl) (fun _ _ _ h => h) (by rfl) (by assumption) ?_
                    try simp only [Act.put, List.setIfInBounds_toArray, List.set_cons_zero, List.set_cons_succ]
                    refine take_no 3 79 rfl rfl (by kernel_rfl) (by kernel_rfl) (by kernel_rfl) (fun _ _ _ h => h) (by rfl) (by assumption) ?_
                    try simp only [Act.put, List.setIfInBounds_toArray, List.set_cons_zero, List.set_cons_succ]
                    refine take_no 4 80 rfl rfl (by kernel_rfl) (by kernel_rfl) (by kernel_rfl) (fun _ _ _ h => h) (by rfl) (by assumption) ?_
                    try simp only [Act.put, List.setIfInBounds_toArray, List.set_cons_zero, List.set_cons_succ]
                    refine take_no 5 81 rfl rfl (by kernel_rfl) (by kernel_rfl) (by kernel_rfl) (fun _ _ _ h => h) (by rfl) (by assumption) ?_
                    try simp only [Act.put, List.setIfInBounds_toArray, List.set_cons_zero, List.set_cons_succ]
                    refine take_no 6 82 rfl rfl (by kernel_rfl) (by kernel_rfl) (by kernel_rfl) (fun _ _ _ h => h) (by rfl) (by assumption) ?_
                    try simp only [Act.put, List.setIfInBounds_toArray, List.set_cons_zero, List.set_cons_succ]
                    refine take_no 7 83 rfl rfl (by kernel_rfl) (by kernel_rfl) (by kernel_rfl) (fun _ _ _ h => h) (by rfl) (by assumption) ?_
                    try simp only [Act.put, List.setIfInBounds_toArray, List.set_cons_zero, List.set_cons_succ]
                    refine take_no 8 84 rfl rfl (by kernel_rfl) (by kernel_rfl) (by kernel_rfl) (fun _ _ _ h => h) (by rfl) (by assumption) ?_
                    try simp only [Act.put, List.setIfInBounds_toArray, List.set_cons_zero, List.set_cons_succ]
                    refine take_no 9 85 rfl rfl (by kernel_rfl) (by kernel_rfl) (by kernel_rfl) (fun _ _ _ h => h) (by rfl) (by assumption) ?_
                    try simp only [Act.put, List.setIfInBounds_toArray, List.set_cons_zero, List.set_cons_succ]
                    refine take_no 10 86 rfl rfl (by kernel_rfl) (by kernel_rfl) (by kernel_rfl) (fun _ _ _ h => h) (by rfl) (by assumption) ?_
                    try simp only [Act.put, List.setIfInBounds_toArray, List.set_cons_zero, List.set_cons_succ]
                    refine take_no 11 87 rfl rfl (by kernel_rfl) (by kernel_rfl) (by kernel_rfl) (fun _ _ _ h => h) (by rfl) (by assumption) ?_
                    try simp only [Act.put, List.setIfInBounds_toArray, List.set_cons_zero, List.set_cons_succ]
                    refine take_no 12 88 rfl rfl (by kernel_rfl) (by kernel_rfl) (by kernel_rfl) (fun _ _ _ h => h) (by rfl) (by assumption) ?_
                    try simp only [Act.put, List.setIfInBounds_toArray, List.set_cons_zero, List.set_cons_succ]
                    refine take_no 13 89 rfl rfl (by kernel_rfl) (by kernel_rfl) (by kernel_rfl) (fun _ _ _ h => h) (by rfl) (by assumption) ?_
                    try simp only [Act.put, List.setIfInBounds_toArray, List.set_cons_zero, List.set_cons_succ]
                    refine take_no 14 90 rfl rfl (by kernel_rfl) (by kernel_rfl) (by kernel_rfl) (fun _ _ _ h => h) (by rfl) (by assumption) ?_
                    try simp only [Act.put, List.setIfInBounds_toArray, List.set_cons_zero, List.set_cons_succ]
                    refine take_no 15 91 rfl rfl (by kernel_rfl) (by kernel_rfl) (by kernel_rfl) (fun _ _ _ h => h) (by rfl) (by assumption) ?_
                    try simp only [Act.put, List.setIfInBounds_toArray, List.set_cons_zero, List.set_cons_succ]
                    refine take_no 16 92 rfl rfl (by kernel_rfl) (by kernel_rfl) (by kernel_rfl) (fun _ _ _ h => h) (by rfl) (by assumption) ?_
                    try simp only [Act.put, List.setIfInBounds_toArray, List.set_cons_zero, List.set_cons_succ]
                    refine take_no 17 93 rfl rfl (by kernel_rfl) (by kernel_rfl) (by kernel_rfl) (fun _ _ _ h => h) (by rfl) (by assumption) ?_
                    try simp only [Act.put, List.setIfInBounds_toArray, List.set_cons_zero, List.set_cons_succ]
                    refine take_no 18 94 rfl rfl (by kernel_rfl) (by kernel_rfl) (by kernel_rfl) (fun _ _ _ h => h) (by rfl) (by assumption) ?_
                    try simp only [Act.put, List.setIfInBounds_toArray, List.set_cons_zero, List.set_cons_succ]
                    refine take_no 19 95 rfl rfl (by kernel_rfl) (by kernel_rfl) (by kernel_rfl) (fun _ _ _ h => h) (by rfl) (by assumption) ?_
                    try simp only [Act.put, List.setIfInBounds_toArray, List.set_cons_zero, List.set_cons_succ]
                    refine take_yes 20 96 rfl rfl (by kernel_rfl) (by kernel_rfl) (by kernel_rfl) (fun _ _ _ h => h) (by rfl) (by assumption) (v := ?_) ?_ ?_
                    rotate_left
                    · intro w hSw; (try dsimp only at hSw); go_simp; (try with_reducible rfl)
                    try simp only [Act.put, List.setIfInBounds_toArray, List.set_cons_zero, List.set_cons_succ]
                    refine take_yes 21 11 rfl rfl (by kernel_rfl) (by kernel_rfl) (by kernel_rfl) (fun _ _ _ h => h) (by rfl) (by assumption) (v := ?_) ?_ ?_
                    rotate_left
                    · intro w hSw; (try dsimp only at hSw); go_simp; (try with_reducible rfl)
                    try simp only [Act.put, List.setIfInBounds_toArray, List.set_cons_zero, List.set_cons_succ]
                    refine wpAnyH_done (by kernel_rfl) ?_ _
                    have HZ := Lib.hid (HFR.out.trans (And.right (by assumption)))
                    go_wp2_with fail
                    go_roundw
                    case rel => exact ⟨j + 1, by omega, by go_num, by rw [HNX.out], HZ.out⟩
                    case measure => (simp [intOf]) <;> omega
                | false =>
                  have hni : (257, d.sv) ∉ l.take j := of_decide_eq_false hoff
                  by_cases ht : t = 257
                  · have ht1 : (t == 257) = true := by simpa using ht
                    by_cases hs : sx = sv
                    · subst hs
                      as_aux_lemma =>
                        have HXR : Hid (∀ W, Fr [] wr W → (fun W => (W.cell? ⟨b, off + j * 2, none⟩ = some (.int .i64 t) ∧ W.cell? ⟨b, off + j * 2 + 1, none⟩ = some (.string (B sx)) ∧ W.cell? ⟨g, 6, none⟩ = some (.string (B sx))) ∧ Fr [] wr W) W) := Lib.hid fun W hW => ⟨⟨(HC.out W (HFR.out.trans hW)).1, (HC.out W (HFR.out.trans hW)).2, (by have := (HBC.out W (HFR.out.trans hW)).c 6 (.string (B d.sv)) rfl; rw [HSV.out] at this; exact this)⟩, hW⟩
                        have HNX : Hid (offB d.sv (l.take (j + 1)) = true) := Lib.hid (by exact decide_eq_true ((HM.out _).2 (Or.inr (by rw [ht, HSV.out]))))
                        clear hni hoff ht
                        go_wp2_with fail
                        refine wp_region_held_drew (S := (fun W => (W.cell? ⟨b, off + j * 2, none⟩ = some (.int .i64 t) ∧ W.cell? ⟨b, off + j * 2 + 1, none⟩ = some (.string (B sx)) ∧ W.cell? ⟨g, 6, none⟩ = some (.string (B sx))) ∧ Fr [] wr W)) (by kernel_rfl) ?_ (fun hHeld => ?_)
                        · (try dsimp only); exact HXR.out _ (Fr.refl [] wr).drew
                        refine take_yes 0 76 rfl rfl (by kernel_rfl) (by kernel_rfl) (by kernel_rfl) (fun _ _ _ h => h) (by rfl) (by assumption) (v := ?_) ?_ ?_
                        rotate_left
                        · intro w hSw; (try dsimp only at hSw); go_simp; (try with_reducible rfl)
                        try simp only [Act.put, List.setIfInBounds_toArray, List.set_cons_zero, List.set_cons_succ]
                        refine take_yes 1 77 rfl rfl (by kernel_rfl) (by kernel_rfl) (by kernel_rfl) (fun _ _ _ h => h) (by rfl) (by assumption) (v := ?_) ?_ ?_
                        rotate_left
                        · intro w hSw; (try dsimp only at hSw); go_simp; (try with_reducible rfl)
                        try simp only [Act.put, List.setIfInBounds_toArray, List.set_cons_zero, List.set_cons_succ]
                        refine take_yes 2 78 rfl rfl (by kernel_rfl) (by kernel_rfl) (by kernel_rfl) (fun _ _ _ h => h) (by rfl) (by assumption) (v := ?_) ?_ ?_
                        rotate_left
                        · intro w hSw; (try dsimp only at hSw); go_simp; (try with_reducible rfl)
                        try simp only [Act.put, List.setIfInBounds_toArray, List.set_cons_zero, List.set_cons_succ]
                        refine take_yes 3 79 rfl rfl (by kernel_rfl) (by kernel_rfl) (by kernel_rfl) (fun _ _ _ h => h) (by rfl) (by assumption) (v := ?_) ?_ ?_
                        rotate_left
                        · intro w hSw; (try dsimp only at hSw); go_simp; (try with_reducible rfl)
                        try simp only [Act.put, List.setIfInBounds_toArray, List.set_cons_zero, List.set_cons_succ]
                        refine take_yes 4 80 rfl rfl (by kernel_rfl) (by kernel_rfl) (by kernel_rfl) (fun _ _ _ h => h) (by rfl) (by assumption) (v := ?_) ?_ ?_
                        rotate_left
                        · intro w hSw; (try dsimp only at hSw); go_simp; (try with_reducible rfl)
                        try simp only [Act.put, List.setIfInBounds_toArray, List.set_cons_zero, List.set_cons_succ]
                        refine take_yes 5 81 rfl rfl (by kernel_rfl) (by kernel_rfl) (by kernel_rfl) (fun _ _ _ h => h) (by rfl) (by assumption) (v := ?_) ?_ ?_
                        rotate_left
                        · intro w hSw; (try dsimp only at hSw); go_simp; (try with_reducible rfl)
                        try simp only [Act.put, List.setIfInBounds_toArray, List.set_cons_zero, List.set_cons_succ]
                        refine take_yes 6 82 rfl rfl (by kernel_rfl) (by kernel_rfl) (by kernel_rfl) (fun _ _ _ h => h) (by rfl) (by assumption) (v := ?_) ?_ ?_
                        rotate_left
                        · intro w hSw; (try dsimp only at hSw); go_simp; (try with_reducible rfl)
                        try simp only [Act.put, List.setIfInBounds_toArray, List.set_cons_zero, List.set_cons_succ]
                        refine take_yes 7 83 rfl rfl (by kernel_rfl) (by kernel_rfl) (by kernel_rfl) (fun _ _ _ h => h) (by rfl) (by assumption) (v := .bool true) ?_ ?_
                        · intro w hSw; (try dsimp only at hSw); go_simp
                        try simp only [Act.put, List.setIfInBounds_toArray, List.set_cons_zero, List.set_cons_succ]
                        refine take_yes 8 84 rfl rfl (by kernel_rfl) (by kernel_rfl) (by kernel_rfl) (fun _ _ _ h => h) (by rfl) (by assumption) (v := ?_) ?_ ?_
                        rotate_left
                        · intro w hSw; (try dsimp only at hSw); go_simp; (try with_reducible rfl)
                        try simp only [Act.put, List.setIfInBounds_toArray, List.set_cons_zero, List.set_cons_succ]
                        refine take_yes 9 85 rfl rfl (by kernel_rfl) (by kernel_rfl) (by kernel_rfl) (fun _ _ _ h => h) (by rfl) (by assumption) (v := ?_) ?_ ?_
                        rotate_left
                        · intro w hSw; (try dsimp only at hSw); go_simp; (try with_reducible rfl)
                        try simp only [Act.put, List.setIfInBounds_toArray, List.set_cons_zero, List.set_cons_succ]
                        refine take_yes 10 86 rfl rfl (by kernel_rfl) (by kernel_rfl) (by kernel_rfl) (fun _ _ _ h => h) (by rfl) (by assumption) (v := ?_) ?_ ?_
                        rotate_left
                        · intro w hSw; (try dsimp only at hSw); go_simp; (try with_reducible rfl)
                        try simp only [Act.put, List.setIfInBounds_toArray, List.set_cons_zero, List.set_cons_succ]
                        refine take_yes 11 87 rfl rfl (by kernel_rfl) (by kernel_rfl) (by kernel_rfl) (fun _ _ _ h => h) (by rfl) (by assumption) (v := ?_) ?_ ?_
                        rotate_left
                        · intro w hSw; (try dsimp only at hSw); go_simp; (try with_reducible rfl)
                        try simp only [Act.put, List.setIfInBounds_toArray, List.set_cons_zero, List.set_cons_succ]
                        refine take_yes 12 88 rfl rfl (by kernel_rfl) (by kernel_rfl) (by kernel_rfl) (fun _ _ _ h => h) (by rfl) (by assumption) (v := ?_) ?_ ?_
                        rotate_left
                        · intro w hSw; (try dsimp only at hSw); go_simp; (try with_reducible rfl)
                        try simp only [Act.put, List.setIfInBounds_toArray, List.set_cons_zero, List.set_cons_succ]
                        refine take_yes 13 89 rfl rfl (by kernel_rfl) (by kernel_rfl) (by kernel_rfl) (fun _ _ _ h => h) (by rfl) (by assumption) (v := ?_) ?_ ?_
                        rotate_left
                        · intro w hSw; (try dsimp only at hSw); go_simp; (try with_reducible rfl)
                        try simp only [Act.put, List.setIfInBounds_toArray, List.set_cons_zero, List.set_cons_succ]
                        refine take_yes 14 90 rfl rfl (by kernel_rfl) (by kernel_rfl) (by kernel_rfl) (fun _ _ _ h => h) (by rfl) (by assumption) (v := ?_) ?_ ?_
                        rotate_left
                        · intro w hSw; (try dsimp only at hSw); go_simp; (try with_reducible rfl)
                        try simp only [Act.put, List.setIfInBounds_toArray, List.set_cons_zero, List.set_cons_succ]
                        refine take_yes 15 91 rfl rfl (by kernel_rfl) (by kernel_rfl) (by kernel_rfl) (fun _ _ _ h => h) (by rfl) (by assumption) (v := ?_) ?_ ?_
                        rotate_left
                        · intro w hSw; (try dsimp only at hSw); go_simp; (try with_reducible rfl)
                        try simp only [Act.put, List.setIfInBounds_toArray, List.set_cons_zero, List.set_cons_succ]
                        refine take_yes 16 92 rfl rfl (by kernel_rfl) (by kernel_rfl) (by kernel_rfl) (fun _ _ _ h => h) (by rfl) (by assumption) (v := ?_) ?_ ?_
                        rotate_left
                        · intro w hSw; (try dsimp only at hSw); go_simp; (try with_reducible rfl)
                        try simp only [Act.put, List.setIfInBounds_toArray, List.set_cons_zero, List.set_cons_succ]
                        refine take_yes 17 93 rfl rfl (by kernel_rfl) (by kernel_rfl) (by kernel_rfl) (fun _ _ _ h => h) (by rfl) (by assumption) (v := ?_) ?_ ?_
                        rotate_left
                        · intro w hSw; (try dsimp only at hSw); go_simp; (try with_reducible rfl)
                        try simp only [Act.put, List.setIfInBounds_toArray, List.set_cons_zero, List.set_cons_succ]
                        refine take_yes 18 94 rfl rfl (by kernel_rfl) (by kernel_rfl) (by kernel_rfl) (fun _ _ _ h => h) (by rfl) (by assumption) (v := .bool true) ?_ ?_
                        · intro w hSw; (try dsimp only at hSw); go_simp
                        try simp only [Act.put, List.setIfInBounds_toArray, List.set_cons_zero, List.set_cons_succ]
                        refine take_yes 19 95 rfl rfl (by kernel_rfl) (by kernel_rfl) (by kernel_rfl) (fun _ _ _ h => h) (by rfl) (by assumption) (v := ?_) ?_ ?_
                        rotate_left
                        · intro w hSw; (try dsimp only at hSw); go_simp; (try with_reducible rfl)
                        try simp only [Act.put, List.setIfInBounds_toArray, List.set_cons_zero, List.set_cons_succ]
                        refine take_yes 20 96 rfl rfl (by kernel_rfl) (by kernel_rfl) (by kernel_rfl) (fun _ _ _ h => h) (by rfl) (by assumption) (v := ?_) ?_ ?_
                        rotate_left
                        · intro w hSw; (try dsimp only at hSw); go_simp; (try with_reducible rfl)
                        try simp only [Act.put, List.setIfInBounds_toArray, List.set_cons_zero, List.set_cons_succ]
                        refine take_yes 21 11 rfl rfl (by kernel_rfl) (by kernel_rfl) (by kernel_rfl) (fun _ _ _ h => h) (by rfl) (by assumption) (v := ?_) ?_ ?_
                        rotate_left
                        · intro w hSw; (try dsimp only at hSw); go_simp; (try with_reducible rfl)
                        try simp only [Act.put, List.setIfInBounds_toArray, List.set_cons_zero, List.set_cons_succ]
                        refine wpAnyH_done (by kernel_rfl) ?_ _
                        have HZ := Lib.hid (HFR.out.trans (And.right (by assumption)))
                        go_wp2_with fail
                        go_roundw
                        case rel => exact ⟨j + 1, by omega, by go_num, by rw [HNX.out], HZ.out⟩
                        case measure => (simp [intOf]) <;> omega
                    · have he2 : ¬ B sx = B sv := fun e => hs (by have := congrArg (fun x : ByteArray => x.toList) e; simpa [B_toList] using this)
                      have he3 : (B sx == B sv) = false := by
                        show ((B sx).data == (B sv).data) = false
                        rw [beq_eq_false_iff_ne]
                        exact fun h => he2 (ByteArray.ext h)
                      have he4 : (sx == sv) = false := by rw [beq_eq_false_iff_ne]; exact hs
                      as_aux_lemma =>
                        have HXR : Hid (∀ W, Fr [] wr W → (fun W => (W.cell? ⟨b, off + j * 2, none⟩ = some (.int .i64 t) ∧ W.cell? ⟨b, off + j * 2 + 1, none⟩ = some (.string (B sx)) ∧ W.cell? ⟨g, 6, none⟩ = some (.string (B sv))) ∧ Fr [] wr W) W) := Lib.hid fun W hW => ⟨⟨(HC.out W (HFR.out.trans hW)).1, (HC.out W (HFR.out.trans hW)).2, (by have := (HBC.out W (HFR.out.trans hW)).c 6 (.string (B d.sv)) rfl; rw [HSV.out] at this; exact this)⟩, hW⟩
                        have HNX : Hid (offB d.sv (l.take (j + 1)) = false) := Lib.hid (by exact decide_eq_false (fun hh => by rcases (HM.out _).1 hh with hh | hh; exact hni hh; injection hh with _ h2; exact hs (by rw [← HSV.out]; exact h2.symm)))
                        clear hni hoff ht
                        go_wp2_with fail
                        refine wp_region_held_drew (S := (fun W => (W.cell? ⟨b, off + j * 2, none⟩ = some (.int .i64 t) ∧ W.cell? ⟨b, off + j * 2 + 1, none⟩ = some (.string (B sx)) ∧ W.cell? ⟨g, 6, none⟩ = some (.string (B sv))) ∧ Fr [] wr W)) (by kernel_rfl) ?_ (fun hHeld => ?_)
                        · (try dsimp only); exact HXR.out _ (Fr.refl [] wr).drew
                        refine take_yes 0 76 rfl rfl (by kernel_rfl) (by kernel_rfl) (by kernel_rfl) (fun _ _ _ h => h) (by rfl) (by assumption) (v := ?_) ?_ ?_
                        rotate_left
                        · intro w hSw; (try dsimp only at hSw); go_simp; (try with_reducible rfl)
                        try simp only [Act.put, List.setIfInBounds_toArray, List.set_cons_zero, List.set_cons_succ]
                        refine take_yes 1 77 rfl rfl (by kernel_rfl) (by kernel_rfl) (by kernel_rfl) (fun _ _ _ h => h) (by rfl) (by assumption) (v := ?_) ?_ ?_
                        rotate_left
                        · intro w hSw; (try dsimp only at hSw); go_simp; (try with_reducible rfl)
                        try simp only [Act.put, List.setIfInBounds_toArray, List.set_cons_zero, List.set_cons_succ]
                        refine take_yes 2 78 rfl rfl (by kernel_rfl) (by kernel_rfl) (by kernel_rfl) (fun _ _ _ h => h) (by rfl) (by assumption) (v := ?_) ?_ ?_
                        rotate_left
                        · intro w hSw; (try dsimp only at hSw); go_simp; (try with_reducible rfl)
                        try simp only [Act.put, List.setIfInBounds_toArray, List.set_cons_zero, List.set_cons_succ]
                        refine take_yes 3 79 rfl rfl (by kernel_rfl) (by kernel_rfl) (by kernel_rfl) (fun _ _ _ h => h) (by rfl) (by assumption) (v := ?_) ?_ ?_
                        rotate_left
                        · intro w hSw; (try dsimp only at hSw); go_simp; (try with_reducible rfl)
                        try simp only [Act.put, List.setIfInBounds_toArray, List.set_cons_zero, List.set_cons_succ]
                        refine take_yes 4 80 rfl rfl (by kernel_rfl) (by kernel_rfl) (by kernel_rfl) (fun _ _ _ h => h) (by rfl) (by assumption) (v := ?_) ?_ ?_
                        rotate_left
                        · intro w hSw; (try dsimp only at hSw); go_simp; (try with_reducible rfl)
                        try simp only [Act.put, List.setIfInBounds_toArray, List.set_cons_zero, List.set_cons_succ]
                        refine take_yes 5 81 rfl rfl (by kernel_rfl) (by kernel_rfl) (by kernel_rfl) (fun _ _ _ h => h) (by rfl) (by assumption) (v := ?_) ?_ ?_
                        rotate_left
                        · intro w hSw; (try dsimp only at hSw); go_simp; (try with_reducible rfl)
                        try simp only [Act.put, List.setIfInBounds_toArray, List.set_cons_zero, List.set_cons_succ]
                        refine take_yes 6 82 rfl rfl (by kernel_rfl) (by kernel_rfl) (by kernel_rfl) (fun _ _ _ h => h) (by rfl) (by assumption) (v := ?_) ?_ ?_
                        rotate_left
                        · intro w hSw; (try dsimp only at hSw); go_simp; (try with_reducible rfl)
                        try simp only [Act.put, List.setIfInBounds_toArray, List.set_cons_zero, List.set_cons_succ]
                        refine take_yes 7 83 rfl rfl (by kernel_rfl) (by kernel_rfl) (by kernel_rfl) (fun _ _ _ h => h) (by rfl) (by assumption) (v := .bool true) ?_ ?_
                        · intro w hSw; (try dsimp only at hSw); go_simp
                        try simp only [Act.put, List.setIfInBounds_toArray, List.set_cons_zero, List.set_cons_succ]
                        refine take_yes 8 84 rfl rfl (by kernel_rfl) (by kernel_rfl) (by kernel_rfl) (fun _ _ _ h => h) (by rfl) (by assumption) (v := ?_) ?_ ?_
                        rotate_left
                        · intro w hSw; (try dsimp only at hSw); go_simp; (try with_reducible rfl)
                        try simp only [Act.put, List.setIfInBounds_toArray, List.set_cons_zero, List.set_cons_succ]
                        refine take_yes 9 85 rfl rfl (by kernel_rfl) (by kernel_rfl) (by kernel_rfl) (fun _ _ _ h => h) (by rfl) (by assumption) (v := ?_) ?_ ?_
                        rotate_left
                        · intro w hSw; (try dsimp only at hSw); go_simp; (try with_reducible rfl)
                        try simp only [Act.put, List.setIfInBounds_toArray, List.set_cons_zero, List.set_cons_succ]
                        refine take_yes 10 86 rfl rfl (by kernel_rfl) (by kernel_rfl) (by kernel_rfl) (fun _ _ _ h => h) (by rfl) (by assumption) (v := ?_) ?_ ?_
                        rotate_left
                        · intro w hSw; (try dsimp only at hSw); go_simp; (try with_reducible rfl)
                        try simp only [Act.put, List.setIfInBounds_toArray, List.set_cons_zero, List.set_cons_succ]
                        refine take_yes 11 87 rfl rfl (by kernel_rfl) (by kernel_rfl) (by kernel_rfl) (fun _ _ _ h => h) (by rfl) (by assumption) (v := ?_) ?_ ?_
                        rotate_left
                        · intro w hSw; (try dsimp only at hSw); go_simp; (try with_reducible rfl)
                        try simp only [Act.put, List.setIfInBounds_toArray, List.set_cons_zero, List.set_cons_succ]
                        refine take_yes 12 88 rfl rfl (by kernel_rfl) (by kernel_rfl) (by kernel_rfl) (fun _ _ _ h => h) (by rfl) (by assumption) (v := ?_) ?_ ?_
                        rotate_left
                        · intro w hSw; (try dsimp only at hSw); go_simp; (try with_reducible rfl)
                        try simp only [Act.put, List.setIfInBounds_toArray, List.set_cons_zero, List.set_cons_succ]
                        refine take_yes 13 89 rfl rfl (by kernel_rfl) (by kernel_rfl) (by kernel_rfl) (fun _ _ _ h => h) (by rfl) (by assumption) (v := ?_) ?_ ?_
                        rotate_left
                        · intro w hSw; (try dsimp only at hSw); go_simp; (try with_reducible rfl)
                        try simp only [Act.put, List.setIfInBounds_toArray, List.set_cons_zero, List.set_cons_succ]
                        refine take_yes 14 90 rfl rfl (by kernel_rfl) (by kernel_rfl) (by kernel_rfl) (fun _ _ _ h => h) (by rfl) (by assumption) (v := ?_) ?_ ?_
                        rotate_left
                        · intro w hSw; (try dsimp only at hSw); go_simp; (try with_reducible rfl)
                        try simp only [Act.put, List.setIfInBounds_toArray, List.set_cons_zero, List.set_cons_succ]
                        refine take_yes 15 91 rfl rfl (by kernel_rfl) (by kernel_rfl) (by kernel_rfl) (fun _ _ _ h => h) (by rfl) (by assumption) (v := ?_) ?_ ?_
                        rotate_left
                        · intro w hSw; (try dsimp only at hSw); go_simp; (try with_reducible rfl)
                        try simp only [Act.put, List.setIfInBounds_toArray, List.set_cons_zero, List.set_cons_succ]
                        refine take_yes 16 92 rfl rfl (by kernel_rfl) (by kernel_rfl) (by kernel_rfl) (fun _ _ _ h => h) (by rfl) (by assumption) (v := ?_) ?_ ?_
                        rotate_left
                        · intro w hSw; (try dsimp only at hSw); go_simp; (try with_reducible rfl)
                        try simp only [Act.put, List.setIfInBounds_toArray, List.set_cons_zero, List.set_cons_succ]
                        refine take_yes 17 93 rfl rfl (by kernel_rfl) (by kernel_rfl) (by kernel_rfl) (fun _ _ _ h => h) (by rfl) (by assumption) (v := ?_) ?_ ?_
                        rotate_left
                        · intro w hSw; (try dsimp only at hSw); go_simp; (try with_reducible rfl)
                        try simp only [Act.put, List.setIfInBounds_toArray, List.set_cons_zero, List.set_cons_succ]
                        refine take_yes 18 94 rfl rfl (by kernel_rfl) (by kernel_rfl) (by kernel_rfl) (fun _ _ _ h => h) (by rfl) (by assumption) (v := .bool false) ?_ ?_
                        · intro w hSw; (try dsimp only at hSw); go_simp
                        try simp only [Act.put, List.setIfInBounds_toArray, List.set_cons_zero, List.set_cons_succ]
                        refine take_yes 19 95 rfl rfl (by kernel_rfl) (by kernel_rfl) (by kernel_rfl) (fun _ _ _ h => h) (by rfl) (by assumption) (v := ?_) ?_ ?_
                        rotate_left
                        · intro w hSw; (try dsimp only at hSw); go_simp; (try with_reducible rfl)
                        try simp only [Act.put, List.setIfInBounds_toArray, List.set_cons_zero, List.set_cons_succ]
                        refine take_yes 20 96 rfl rfl (by kernel_rfl) (by kernel_rfl) (by kernel_rfl) (fun _ _ _ h => h) (by rfl) (by assumption) (v := ?_) ?_ ?_
                        rotate_left
                        · intro w hSw; (try dsimp only at hSw); go_simp; (try with_reducible rfl)
                        try simp only [Act.put, List.setIfInBounds_toArray, List.set_cons_zero, List.set_cons_succ]
                        refine take_yes 21 11 rfl rfl (by kernel_rfl) (by kernel_rfl) (by kernel_rfl) (fun _ _ _ h => h) (by rfl) (by assumption) (v := ?_) ?_ ?_
                        rotate_left
                        · intro w hSw; (try dsimp only at hSw); go_simp; (try with_reducible rfl)
                        try simp only [Act.put, List.setIfInBounds_toArray, List.set_cons_zero, List.set_cons_succ]
                        refine wpAnyH_done (by kernel_rfl) ?_ _
                        have HZ := Lib.hid (HFR.out.trans (And.right (by assumption)))
                        go_wp2_with fail
                        go_roundw
                        case rel => exact ⟨j + 1, by omega, by go_num, by rw [HNX.out], HZ.out⟩
                        case measure => (simp [intOf]) <;> omega
                  · have ht1 : (t == 257) = false := by rw [beq_eq_false_iff_ne]; exact ht
                    as_aux_lemma =>
                      have HXR : Hid (∀ W, Fr [] wr W → (fun W => (W.cell? ⟨b, off + j * 2, none⟩ = some (.int .i64 t) ∧ W.cell? ⟨b, off + j * 2 + 1, none⟩ = some (.string (B sx)) ∧ W.cell? ⟨g, 6, none⟩ = some (.string (B sv))) ∧ Fr [] wr W) W) := Lib.hid fun W hW => ⟨⟨(HC.out W (HFR.out.trans hW)).1, (HC.out W (HFR.out.trans hW)).2, (by have := (HBC.out W (HFR.out.trans hW)).c 6 (.string (B d.sv)) rfl; rw [HSV.out] at this; exact this)⟩, hW⟩
                      have HNX : Hid (offB d.sv (l.take (j + 1)) = false) := Lib.hid (by exact decide_eq_false (fun hh => by rcases (HM.out _).1 hh with hh | hh; exact hni hh; injection hh with h2 _; exact ht h2.symm))
                      clear hni hoff ht
                      go_wp2_with fail
                      refine wp_region_held_drew (S := (fun W => (W.cell? ⟨b, off + j * 2, none⟩ = some (.int .i64 t) ∧ W.cell? ⟨b, off + j * 2 + 1, none⟩ = some (.string (B sx)) ∧ W.cell? ⟨g, 6, none⟩ = some (.string (B sv))) ∧ Fr [] wr W)) (by kernel_rfl) ?_ (fun hHeld => ?_)
                      · (try dsimp only); exact HXR.out _ (Fr.refl [] wr).drew
                      refine take_yes 0 76 rfl rfl (by kernel_rfl) (by kernel_rfl) (by kernel_rfl) (fun _ _ _ h => h) (by rfl) (by assumption) (v := ?_) ?_ ?_
                      rotate_left
                      · intro w hSw; (try dsimp only at hSw); go_simp; (try with_reducible rfl)
                      try simp only [Act.put, List.setIfInBounds_toArray, List.set_cons_zero, List.set_cons_succ]
                      refine take_yes 1 77 rfl rfl (by kernel_rfl) (by kernel_rfl) (by kernel_rfl) (fun _ _ _ h => h) (by rfl) (by assumption) (v := ?_) ?_ ?_
                      rotate_left
                      · intro w hSw; (try dsimp only at hSw); go_simp; (try with_reducible rfl)
                      try simp only [Act.put, List.setIfInBounds_toArray, List.set_cons_zero, List.set_cons_succ]
                      refine take_yes 2 78 rfl rfl (by kernel_rfl) (by kernel_rfl) (by kernel_rfl) (fun _ _ _ h => h) (by rfl) (by assumption) (v := ?_) ?_ ?_
                      rotate_left
                      · intro w hSw; (try dsimp only at hSw); go_simp; (try with_reducible rfl)
                      try simp only [Act.put, List.setIfInBounds_toArray, List.set_cons_zero, List.set_cons_succ]
                      refine take_yes 3 79 rfl rfl (by kernel_rfl) (by kernel_rfl) (by kernel_rfl) (fun _ _ _ h => h) (by rfl) (by assumption) (v := ?_) ?_ ?_
                      rotate_left
                      · intro w hSw; (try dsimp only at hSw); go_simp; (try with_reducible rfl)
                      try simp only [Act.put, List.setIfInBounds_toArray, List.set_cons_zero, List.set_cons_succ]
                      refine take_yes 4 80 rfl rfl (by kernel_rfl) (by kernel_rfl) (by kernel_rfl) (fun _ _ _ h => h) (by rfl) (by assumption) (v := ?_) ?_ ?_
                      rotate_left
                      · intro w hSw; (try dsimp only at hSw); go_simp; (try with_reducible rfl)
                      try simp only [Act.put, List.setIfInBounds_toArray, List.set_cons_zero, List.set_cons_succ]
                      refine take_yes 5 81 rfl rfl (by kernel_rfl) (by kernel_rfl) (by kernel_rfl) (fun _ _ _ h => h) (by rfl) (by assumption) (v := ?_) ?_ ?_
                      rotate_left
                      · intro w hSw; (try dsimp only at hSw); go_simp; (try with_reducible rfl)
                      try simp only [Act.put, List.setIfInBounds_toArray, List.set_cons_zero, List.set_cons_succ]
                      refine take_yes 6 82 rfl rfl (by kernel_rfl) (by kernel_rfl) (by kernel_rfl) (fun _ _ _ h => h) (by rfl) (by assumption) (v := ?_) ?_ ?_
                      rotate_left
                      · intro w hSw; (try dsimp only at hSw); go_simp; (try with_reducible rfl)
                      try simp only [Act.put, List.setIfInBounds_toArray, List.set_cons_zero, List.set_cons_succ]
                      refine take_yes 7 83 rfl rfl (by kernel_rfl) (by kernel_rfl) (by kernel_rfl) (fun _ _ _ h => h) (by rfl) (by assumption) (v := .bool false) ?_ ?_
                      · intro w hSw; (try dsimp only at hSw); go_simp
                      try simp only [Act.put, List.setIfInBounds_toArray, List.set_cons_zero, List.set_cons_succ]
                      refine take_yes 8 84 rfl rfl (by kernel_rfl) (by kernel_rfl) (by kernel_rfl) (fun _ _ _ h => h) (by rfl) (by assumption) (v := ?_) ?_ ?_
                      rotate_left
                      · intro w hSw; (try dsimp only at hSw); go_simp; (try with_reducible rfl)
                      try simp only [Act.put, List.setIfInBounds_toArray, List.set_cons_zero, List.set_cons_succ]
                      refine take_no 9 85 rfl rfl (by kernel_rfl) (by kernel_rfl) (by kernel_rfl) (fun _ _ _ h => h) (by rfl) (by assumption) ?_
                      try simp only [Act.put, List.setIfInBounds_toArray, List.set_cons_zero, List.set_cons_succ]
                      refine take_no 10 86 rfl rfl (by kernel_rfl) (by kernel_rfl) (by kernel_rfl) (fun _ _ _ h => h) (by rfl) (by assumption) ?_
                      try simp only [Act.put, List.setIfInBounds_toArray, List.set_cons_zero, List.set_cons_succ]
                      refine take_no 11 87 rfl rfl (by kernel_rfl) (by kernel_rfl) (by kernel_rfl) (fun _ _ _ h => h) (by rfl) (by assumption) ?_
                      try simp only [Act.put, List.setIfInBounds_toArray, List.set_cons_zero, List.set_cons_succ]
                      refine take_no 12 88 rfl rfl (by kernel_rfl) (by kernel_rfl) (by kernel_rfl) (fun _ _ _ h => h) (by rfl) (by assumption) ?_
                      try simp only [Act.put, List.setIfInBounds_toArray, List.set_cons_zero, List.set_cons_succ]
                      refine take_no 13 89 rfl rfl (by kernel_rfl) (by kernel_rfl) (by kernel_rfl) (fun _ _ _ h => h) (by rfl) (by assumption) ?_
                      try simp only [Act.put, List.setIfInBounds_toArray, List.set_cons_zero, List.set_cons_succ]
                      refine take_no 14 90 rfl rfl (by kernel_rfl) (by kernel_rfl) (by kernel_rfl) (fun _ _ _ h => h) (by rfl) (by assumption) ?_
                      try simp only [Act.put, List.setIfInBounds_toArray, List.set_cons_zero, List.set_cons_succ]
                      refine take_no 15 91 rfl rfl (by kernel_rfl) (by kernel_rfl) (by kernel_rfl) (fun _ _ _ h => h) (by rfl) (by assumption) ?_
                      try simp only [Act.put, List.setIfInBounds_toArray, List.set_cons_zero, List.set_cons_succ]
                      refine take_no 16 92 rfl rfl (by kernel_rfl) (by kernel_rfl) (by kernel_rfl) (fun _ _ _ h => h) (by rfl) (by assumption) ?_
                      try simp only [Act.put, List.setIfInBounds_toArray, List.set_cons_zero, List.set_cons_succ]
                      refine take_no 17 93 rfl rfl (by kernel_rfl) (by kernel_rfl) (by kernel_rfl) (fun _ _ _ h => h) (by rfl) (by assumption) ?_
                      try simp only [Act.put, List.setIfInBounds_toArray, List.set_cons_zero, List.set_cons_succ]
                      refine take_no 18 94 rfl rfl (by kernel_rfl) (by kernel_rfl) (by kernel_rfl) (fun _ _ _ h => h) (by rfl) (by assumption) ?_
                      try simp only [Act.put, List.setIfInBounds_toArray, List.set_cons_zero, List.set_cons_succ]
                      refine take_yes 19 95 rfl rfl (by kernel_rfl) (by kernel_rfl) (by kernel_rfl) (fun _ _ _ h => h) (by rfl) (by assumption) (v := ?_) ?_ ?_
                      rotate_left
                      · intro w hSw; (try dsimp only at hSw); go_simp; (try with_reducible rfl)
                      try simp only [Act.put, List.setIfInBounds_toArray, List.set_cons_zero, List.set_cons_succ]
                      refine take_yes 20 96 rfl rfl (by kernel_rfl) (by kernel_rfl) (by kernel_rfl) (fun _ _ _ h => h) (by rfl) (by assumption) (v := ?_) ?_ ?_
                      rotate_left
                      · intro w hSw; (try dsimp only at hSw); go_simp; (try with_reducible rfl)
                      try simp only [Act.put, List.setIfInBounds_toArray, List.set_cons_zero, List.set_cons_succ]
                      refine take_yes 21 11 rfl rfl (by kernel_rfl) (by kernel_rfl) (by kernel_rfl) (fun _ _ _ h => h) (by rfl) (by assumption) (v := ?_) ?_ ?_
                      rotate_left
                      · intro w hSw; (try dsimp only at hSw); go_simp; (try with_reducible rfl)
                      try simp only [Act.put, List.setIfInBounds_toArray, List.set_cons_zero, List.set_cons_succ]
                      refine wpAnyH_done (by kernel_rfl) ?_ _
                      have HZ := Lib.hid (HFR.out.trans (And.right (by assumption)))
                      go_wp2_with fail
                      go_roundw
                      case rel => exact ⟨j + 1, by omega, by go_num, by rw [HNX.out], HZ.out⟩
                      case measure => (simp [intOf]) <;> omega
              · obtain rfl : j = l.length := by omega
                have hge : ¬ (l.length : Int) < l.length := by omega
                rw [List.take_length]
                by_cases hoff : offB d.sv l = true ∧ mineB d.un l = true
                · have ho : offB d.sv l = true := hoff.1
                  have hm : mn = true := by rw [← HMN.out]; exact hoff.2
                  subst hm
                  rw [ho]
                  have HGY : Hid (dTake d (⟨k1, k2, k3, k4, k5, k6⟩, ⟨s1, s2, s3, s4, s5, s6⟩, ty, d0) = (dChosen d ⟨s1, s2, s3, s4, s5, s6⟩ l, dSayL (dChosen d ⟨s1, s2, s3, s4, s5, s6⟩ l))) := Lib.hid (by rw [HPT.out, HGT.out, if_pos hoff])
                  have FC := Lib.hid (FDC.out _ HFR.out 260)
                  clear hoff ho HGT HPT FDC
                  go_wp2_with fail
                  refine FC.out.mono ?_
                  rintro e w7 ⟨rfl, hF7⟩
                  have HF7 := Lib.hid (HFR.out.trans hF7)
                  have hn20 := findN_le l 260
                  obtain ⟨n, hn⟩ : ∃ n, findN l 260 = n := ⟨_, rfl⟩
                  obtain ⟨sx, hs⟩ : ∃ s, findS l 260 = s := ⟨_, rfl⟩
                  rw [hn] at hn20 ⊢
                  rw [hs]
                  have hnb : (n : Int) ≤ 20 := by omega
                  clear hF7 FC
                  have hb := HNC.out _ HF7.out
                  have hB7 := HBC.out _ HF7.out
                  have HB7 := Lib.hid hB7
                  have hqg : ¬ q = g := fun e => by rw [e] at hb; exact hb.neT hB7 (by decide) rfl
                  have hgq : ¬ g = q := fun e => hqg e.symm
                  have y6 : w7.cell? ⟨q, 6, none⟩ = some (.int .u8 s1) := hb.c 6 _ rfl
                  have y7 : w7.cell? ⟨q, 7, none⟩ = some (.int .u8 s2) := hb.c 7 _ rfl
                  have y8 : w7.cell? ⟨q, 8, none⟩ = some (.int .u8 s3) := hb.c 8 _ rfl
                  have y9 : w7.cell? ⟨q, 9, none⟩ = some (.int .u8 s4) := hb.c 9 _ rfl
                  have y10 : w7.cell? ⟨q, 10, none⟩ = some (.int .u8 s5) := hb.c 10 _ rfl
                  have y11 : w7.cell? ⟨q, 11, none⟩ = some (.int .u8 s6) := hb.c 11 _ rfl
                  have g10 : w7.cell? ⟨g, 10, none⟩ = some (.int .i64 d.st) := hB7.c 10 _ rfl
                  have f10 := hB7.fz 10
                  have g12 : w7.cell? ⟨g, 12, none⟩ = some (.int .u8 d.k.a) := hB7.c 12 _ rfl
                  have f12 := hB7.fz 12
                  have g13 : w7.cell? ⟨g, 13, none⟩ = some (.int .u8 d.k.b) := hB7.c 13 _ rfl
                  have f13 := hB7.fz 13
                  have g14 : w7.cell? ⟨g, 14, none⟩ = some (.int .u8 d.k.c) := hB7.c 14 _ rfl
                  have f14 := hB7.fz 14
                  have g15 : w7.cell? ⟨g, 15, none⟩ = some (.int .u8 d.k.d) := hB7.c 15 _ rfl
                  have f15 := hB7.fz 15
                  have g16 : w7.cell? ⟨g, 16, none⟩ = some (.int .u8 d.k.e) := hB7.c 16 _ rfl
                  have f16 := hB7.fz 16
                  have g17 : w7.cell? ⟨g, 17, none⟩ = some (.int .u8 d.k.f) := hB7.c 17 _ rfl
                  have f17 := hB7.fz 17
                  have g18 : w7.cell? ⟨g, 18, none⟩ = some (.string (B d.ck)) := hB7.c 18 _ rfl
                  have f18 := hB7.fz 18
                  have g19 : w7.cell? ⟨g, 19, none⟩ = some (.bool d.hc) := hB7.c 19 _ rfl
                  have f19 := hB7.fz 19
                  have g21 : w7.cell? ⟨g, 21, none⟩ = some (.int .i64 d.ag) := hB7.c 21 _ rfl
                  have f21 := hB7.fz 21
                  have HDC2 : Hid (dChosen d ⟨s1, s2, s3, s4, s5, s6⟩ l = { d with st := 2, k := ⟨s1, s2, s3, s4, s5, s6⟩, ck := sx, hc := decide (0 < n), ag := 0, tk := 0 }) := Lib.hid (by unfold dChosen; rw [hn, hs])
                  have HHC : Hid (sx.length ≤ 1494) := Lib.hid (by rw [← hs]; exact findS_len l 260 1494 HBD.out.2.2)
                  clear hb hB7 hn hs
                  have ASKW : Hid (∀ (bb : Bool) (W : World), decide (0 < n) = bb → Fr [g] w W → Blk W g (dhC { d with st := 2, k := ⟨s1, s2, s3, s4, s5, s6⟩, ck := sx, hc := bb, ag := 0 }) 254 → Calls Tryz.prog 198 #[.pointer (some ⟨g, 0, none⟩)] W (DOut w g (dTake d (⟨k1, k2, k3, k4, k5, k6⟩, ⟨s1, s2, s3, s4, s5, s6⟩, ty, d0)).2 (dTake d (⟨k1, k2, k3, k4, k5, k6⟩, ⟨s1, s2, s3, s4, s5, s6⟩, ty, d0)).1)) := Lib.hid fun bb W hbb hW hBW => by
                    subst hbb
                    refine (dask_di (d := { d with st := 2, k := ⟨s1, s2, s3, s4, s5, s6⟩, ck := sx, hc := decide (0 < n), ag := 0 }) (Or.inr rfl) HDI.out.sv HDI.out.un (fun _ _ => HHC.out) hBW).mono ?_
                    intro e w' hP
                    have := DOut.later hP hW
                    rw [HGY.out, HDC2.out]
                    exact this
                  have HFg := Lib.hid ((HFC.out.trans HF7.out).mono (S' := [g]) (by simp))
                  by_cases hz : n = 0
                  · have hn0 : ¬ (0 : Int) < n := by omega
                    as_aux_lemma =>
                      have HXQ : Hid (∀ W, Fr [g] w7 W → (fun W => (W.cell? ⟨q, 6, none⟩ = some (.int .u8 s1) ∧ W.cell? ⟨q, 7, none⟩ = some (.int .u8 s2) ∧ W.cell? ⟨q, 8, none⟩ = some (.int .u8 s3) ∧ W.cell? ⟨q, 9, none⟩ = some (.int .u8 s4) ∧ W.cell? ⟨q, 10, none⟩ = some (.int .u8 s5) ∧ W.cell? ⟨q, 11, none⟩ = some (.int .u8 s6)) ∧ Fr [g] w7 W) W) := Lib.hid fun W hW => by
                        have hq := hW.blk (HNC.out _ HF7.out) (by simpa using hqg)
                        exact ⟨⟨hq.c 6 _ rfl, hq.c 7 _ rfl, hq.c 8 _ rfl, hq.c 9 _ rfl, hq.c 10 _ rfl, hq.c 11 _ rfl⟩, hW⟩
                      clear y6 y7 y8 y9 y10 y11 g10 f10 g12 f12 g13 f13 g14 f14 g15 f15 g16 f16 g17 f17 g18 f18 g19 f19 g21 f21
                      go_wp2_with fail
                      refine wp_region_held_drew (S := (fun W => (W.cell? ⟨q, 6, none⟩ = some (.int .u8 s1) ∧ W.cell? ⟨q, 7, none⟩ = some (.int .u8 s2) ∧ W.cell? ⟨q, 8, none⟩ = some (.int .u8 s3) ∧ W.cell? ⟨q, 9, none⟩ = some (.int .u8 s4) ∧ W.cell? ⟨q, 10, none⟩ = some (.int .u8 s5) ∧ W.cell? ⟨q, 11, none⟩ = some (.int .u8 s6)) ∧ Fr [g] w7 W)) (by kernel_rfl) ?_ (fun hHeld => ?_)
                      · (try dsimp only); exact HXQ.out _ (Fr.refl [g] w7).drew
                      have hBa := HB7.out.drew
                      have hFa : Fr [g] w7 w7.drew := (Fr.refl [g] w7).drew
                      obtain ⟨va, hva⟩ : ∃ X, w7.drew = X := ⟨_, rfl⟩
                      rw [hva] at hHeld hBa hFa ⊢
                      clear hva
                      refine take_yes 0 108 rfl rfl (by kernel_rfl) (by kernel_rfl) (by kernel_rfl) (fun _ _ _ h => h) (by rfl) (by assumption) (v := ?_) ?_ ?_
                      rotate_left
                      · intro w hSw; (try dsimp only at hSw); go_simp; (try with_reducible rfl)
                      try simp only [Act.put, List.setIfInBounds_toArray, List.set_cons_zero, List.set_cons_succ]
                      refine take_yes 1 109 rfl rfl (by kernel_rfl) (by kernel_rfl) (by kernel_rfl) (fun _ _ _ h => h) (by rfl) (by assumption) (v := ?_) ?_ ?_
                      rotate_left
                      · intro w hSw; (try dsimp only at hSw); go_simp; (try with_reducible rfl)
                      try simp only [Act.put, List.setIfInBounds_toArray, List.set_cons_zero, List.set_cons_succ]
                      refine take_yes 2 110 rfl rfl (by kernel_rfl) (by kernel_rfl) (by kernel_rfl) (fun _ _ _ h => h) (by rfl) (by assumption) (v := ?_) ?_ ?_
                      rotate_left
                      · intro w hSw; (try dsimp only at hSw); go_simp; (try with_reducible rfl)
                      try simp only [Act.put, List.setIfInBounds_toArray, List.set_cons_zero, List.set_cons_succ]
                      refine take_yes 3 111 rfl rfl (by kernel_rfl) (by kernel_rfl) (by kernel_rfl) (fun _ _ _ h => h) (by rfl) (by assumption) (v := ?_) ?_ ?_
                      rotate_left
                      · intro w hSw; (try dsimp only at hSw); go_simp; (try with_reducible rfl)
                      try simp only [Act.put, List.setIfInBounds_toArray, List.set_cons_zero, List.set_cons_succ]
                      refine take_yes 4 112 rfl rfl (by kernel_rfl) (by kernel_rfl) (by kernel_rfl) (fun _ _ _ h => h) (by rfl) (by assumption) (v := ?_) ?_ ?_
                      rotate_left
                      · intro w hSw; (try dsimp only at hSw); go_simp; (try with_reducible rfl)
                      try simp only [Act.put, List.setIfInBounds_toArray, List.set_cons_zero, List.set_cons_succ]
                      refine take_yes 5 113 rfl rfl (by kernel_rfl) (by kernel_rfl) (by kernel_rfl) (fun _ _ _ h => h) (by rfl) (by assumption) (v := ?_) ?_ ?_
                      rotate_left
                      · intro w hSw; (try dsimp only at hSw); go_simp; (try with_reducible rfl)
                      try simp only [Act.put, List.setIfInBounds_toArray, List.set_cons_zero, List.set_cons_succ]
                      refine take_yes 6 114 rfl rfl (by kernel_rfl) (by kernel_rfl) (by kernel_rfl) (fun _ _ _ h => h) (by rfl) (by assumption) (v := .agg #[.int .u8 s1, .int .u8 s2, .int .u8 s3, .int .u8 s4, .int .u8 s5, .int .u8 s6]) ?_ ?_
                      · intro w hSw; (try dsimp only at hSw); go_simp
                      try simp only [Act.put, List.setIfInBounds_toArray, List.set_cons_zero, List.set_cons_succ]
                      refine take_yes 7 115 rfl rfl (by kernel_rfl) (by kernel_rfl) (by kernel_rfl) (fun _ _ _ h => h) (by rfl) (by assumption) (v := ?_) ?_ ?_
                      rotate_left
                      · intro w hSw; (try dsimp only at hSw); go_simp; (try with_reducible rfl)
                      try simp only [Act.put, List.setIfInBounds_toArray, List.set_cons_zero, List.set_cons_succ]
                      refine take_yes 8 116 rfl rfl (by kernel_rfl) (by kernel_rfl) (by kernel_rfl) (fun _ _ _ h => h) (by rfl) (by assumption) (v := ?_) ?_ ?_
                      rotate_left
                      · intro w hSw; (try dsimp only at hSw); go_simp; (try with_reducible rfl)
                      try simp only [Act.put, List.setIfInBounds_toArray, List.set_cons_zero, List.set_cons_succ]
                      refine take_yes 9 117 rfl rfl (by kernel_rfl) (by kernel_rfl) (by kernel_rfl) (fun _ _ _ h => h) (by rfl) (by assumption) (v := .bool false) ?_ ?_
                      · intro w hSw; (try dsimp only at hSw); go_simp; (try exact Nat.pos_of_ne_zero hz)
                      try simp only [Act.put, List.setIfInBounds_toArray, List.set_cons_zero, List.set_cons_succ]
                      refine take_yes 10 118 rfl rfl (by kernel_rfl) (by kernel_rfl) (by kernel_rfl) (fun _ _ _ h => h) (by rfl) (by assumption) (v := ?_) ?_ ?_
                      rotate_left
                      · intro w hSw; (try dsimp only at hSw); go_simp; (try with_reducible rfl)
                      try simp only [Act.put, List.setIfInBounds_toArray, List.set_cons_zero, List.set_cons_succ]
                      refine take_yes 11 119 rfl rfl (by kernel_rfl) (by kernel_rfl) (by kernel_rfl) (fun _ _ _ h => h) (by rfl) (by assumption) (v := ?_) ?_ ?_
                      rotate_left
                      · intro w hSw; (try dsimp only at hSw); go_simp; (try with_reducible rfl)
                      try simp only [Act.put, List.setIfInBounds_toArray, List.set_cons_zero, List.set_cons_succ]
                      have c10 := hBa.c 10 _ rfl
                      have f10 := hBa.fz 10
                      refine wpAnyH_ready (rs := [12]) (by kernel_rfl) (by simp) ?_
                      refine AllReadyH.cons (o := _) rfl (fun K hK => ?_) AllReadyH.nil
                      go_simp
                      (try go_wp2_with fail)
                      have hBb := (hBa).set 10 (.int .i64 2)
                      have hFb := (hFa).setCell (p := ⟨g, 10, none⟩) (by simp) (.int .i64 2)
                      simp only [dhC, List.setIfInBounds_toArray, List.set_cons_zero, List.set_cons_succ] at hBb
                      refine hK.out _ _ ?_ (fun hHeld => ?_)
                      · (try dsimp only); exact HXQ.out _ hFb
                      clear hK K c10 f10
                      try simp only [Act.put, List.setIfInBounds_toArray, List.set_cons_zero, List.set_cons_succ]
                      obtain ⟨vb, hvb⟩ : ∃ X, (va.setCell ⟨g, 10, none⟩ (.int .i64 2)) = X := ⟨_, rfl⟩
                      rw [hvb] at hHeld hBb hFb ⊢
                      clear hvb hBa hFa
                      refine take_yes 13 120 rfl rfl (by kernel_rfl) (by kernel_rfl) (by kernel_rfl) (fun _ _ _ h => h) (by rfl) (by assumption) (v := ?_) ?_ ?_
                      rotate_left
                      · intro w hSw; (try dsimp only at hSw); go_simp; (try with_reducible rfl)
                      try simp only [Act.put, List.setIfInBounds_toArray, List.set_cons_zero, List.set_cons_succ]
                      refine take_yes 14 121 rfl rfl (by kernel_rfl) (by kernel_rfl) (by kernel_rfl) (fun _ _ _ h => h) (by rfl) (by assumption) (v := ?_) ?_ ?_
                      rotate_left
                      · intro w hSw; (try dsimp only at hSw); go_simp; (try with_reducible rfl)
                      try simp only [Act.put, List.setIfInBounds_toArray, List.set_cons_zero, List.set_cons_succ]
                      have c12 := hBb.c 12 _ rfl
                      have f12 := hBb.fz 12
                      have c13 := hBb.c 13 _ rfl
                      have f13 := hBb.fz 13
                      have c14 := hBb.c 14 _ rfl
                      have f14 := hBb.fz 14
                      have c15 := hBb.c 15 _ rfl
                      have f15 := hBb.fz 15
                      have c16 := hBb.c 16 _ rfl
                      have f16 := hBb.fz 16
                      have c17 := hBb.c 17 _ rfl
                      have f17 := hBb.fz 17
                      refine wpAnyH_ready (rs := [15]) (by kernel_rfl) (by simp) ?_
                      refine AllReadyH.cons (o := _) rfl (fun K hK => ?_) AllReadyH.nil
                      go_simp
                      (try go_wp2_with fail)
                      have hBc := ((((((hBb).set 12 (.int .u8 s1)).set 13 (.int .u8 s2)).set 14 (.int .u8 s3)).set 15 (.int .u8 s4)).set 16 (.int .u8 s5)).set 17 (.int .u8 s6)
                      have hFc := ((((((hFb).setCell (p := ⟨g, 12, none⟩) (by simp) (.int .u8 s1)).setCell (p := ⟨g, 13, none⟩) (by simp) (.int .u8 s2)).setCell (p := ⟨g, 14, none⟩) (by simp) (.int .u8 s3)).setCell (p := ⟨g, 15, none⟩) (by simp) (.int .u8 s4)).setCell (p := ⟨g, 16, none⟩) (by simp) (.int .u8 s5)).setCell (p := ⟨g, 17, none⟩) (by simp) (.int .u8 s6)
                      simp only [List.setIfInBounds_toArray, List.set_cons_zero, List.set_cons_succ] at hBc
                      refine hK.out _ _ ?_ (fun hHeld => ?_)
                      · (try dsimp only); exact HXQ.out _ hFc
                      clear hK K c12 f12 c13 f13 c14 f14 c15 f15 c16 f16 c17 f17
                      try simp only [Act.put, List.setIfInBounds_toArray, List.set_cons_zero, List.set_cons_succ]
                      obtain ⟨vc, hvc⟩ : ∃ X, ((((((vb.setCell ⟨g, 12, none⟩ (.int .u8 s1)).setCell ⟨g, 13, none⟩ (.int .u8 s2)).setCell ⟨g, 14, none⟩ (.int .u8 s3)).setCell ⟨g, 15, none⟩ (.int .u8 s4)).setCell ⟨g, 16, none⟩ (.int .u8 s5)).setCell ⟨g, 17, none⟩ (.int .u8 s6)) = X := ⟨_, rfl⟩
                      rw [hvc] at hHeld hBc hFc ⊢
                      clear hvc hBb hFb
                      refine take_yes 16 122 rfl rfl (by kernel_rfl) (by kernel_rfl) (by kernel_rfl) (fun _ _ _ h => h) (by rfl) (by assumption) (v := ?_) ?_ ?_
                      rotate_left
                      · intro w hSw; (try dsimp only at hSw); go_simp; (try with_reducible rfl)
                      try simp only [Act.put, List.setIfInBounds_toArray, List.set_cons_zero, List.set_cons_succ]
                      refine take_yes 17 123 rfl rfl (by kernel_rfl) (by kernel_rfl) (by kernel_rfl) (fun _ _ _ h => h) (by rfl) (by assumption) (v := ?_) ?_ ?_
                      rotate_left
                      · intro w hSw; (try dsimp only at hSw); go_simp; (try with_reducible rfl)
                      try simp only [Act.put, List.setIfInBounds_toArray, List.set_cons_zero, List.set_cons_succ]
                      have c18 := hBc.c 18 _ rfl
                      have f18 := hBc.fz 18
                      refine wpAnyH_ready (rs := [18]) (by kernel_rfl) (by simp) ?_
                      refine AllReadyH.cons (o := _) rfl (fun K hK => ?_) AllReadyH.nil
                      go_simp
                      (try go_wp2_with fail)
                      have hBd := (hBc).set 18 (.string (B sx))
                      have hFd := (hFc).setCell (p := ⟨g, 18, none⟩) (by simp) (.string (B sx))
                      simp only [List.setIfInBounds_toArray, List.set_cons_zero, List.set_cons_succ] at hBd
                      refine hK.out _ _ ?_ (fun hHeld => ?_)
                      · (try dsimp only); exact HXQ.out _ hFd
                      clear hK K c18 f18
                      try simp only [Act.put, List.setIfInBounds_toArray, List.set_cons_zero, List.set_cons_succ]
                      obtain ⟨vd, hvd⟩ : ∃ X, (vc.setCell ⟨g, 18, none⟩ (.string (B sx))) = X := ⟨_, rfl⟩
                      rw [hvd] at hHeld hBd hFd ⊢
                      clear hvd hBc hFc
                      refine take_yes 19 124 rfl rfl (by kernel_rfl) (by kernel_rfl) (by kernel_rfl) (fun _ _ _ h => h) (by rfl) (by assumption) (v := ?_) ?_ ?_
                      rotate_left
                      · intro w hSw; (try dsimp only at hSw); go_simp; (try with_reducible rfl)
                      try simp only [Act.put, List.setIfInBounds_toArray, List.set_cons_zero, List.set_cons_succ]
                      refine take_yes 20 125 rfl rfl (by kernel_rfl) (by kernel_rfl) (by kernel_rfl) (fun _ _ _ h => h) (by rfl) (by assumption) (v := ?_) ?_ ?_
                      rotate_left
                      · intro w hSw; (try dsimp only at hSw); go_simp; (try with_reducible rfl)
                      try simp only [Act.put, List.setIfInBounds_toArray, List.set_cons_zero, List.set_cons_succ]
                      have c19 := hBd.c 19 _ rfl
                      have f19 := hBd.fz 19
                      refine wpAnyH_ready (rs := [21]) (by kernel_rfl) (by simp) ?_
                      refine AllReadyH.cons (o := _) rfl (fun K hK => ?_) AllReadyH.nil
                      go_simp
                      (try go_wp2_with fail)
                      have hBe := (hBd).set 19 (.bool false)
                      have hFe := (hFd).setCell (p := ⟨g, 19, none⟩) (by simp) (.bool false)
                      simp only [List.setIfInBounds_toArray, List.set_cons_zero, List.set_cons_succ] at hBe
                      refine hK.out _ _ ?_ (fun hHeld => ?_)
                      · (try dsimp only); exact HXQ.out _ hFe
                      clear hK K c19 f19
                      try simp only [Act.put, List.setIfInBounds_toArray, List.set_cons_zero, List.set_cons_succ]
                      obtain ⟨ve, hve⟩ : ∃ X, (vd.setCell ⟨g, 19, none⟩ (.bool false)) = X := ⟨_, rfl⟩
                      rw [hve] at hHeld hBe hFe ⊢
                      clear hve hBd hFd
                      refine take_yes 22 126 rfl rfl (by kernel_rfl) (by kernel_rfl) (by kernel_rfl) (fun _ _ _ h => h) (by rfl) (by assumption) (v := ?_) ?_ ?_
                      rotate_left
                      · intro w hSw; (try dsimp only at hSw); go_simp; (try with_reducible rfl)
                      try simp only [Act.put, List.setIfInBounds_toArray, List.set_cons_zero, List.set_cons_succ]
                      refine take_yes 23 127 rfl rfl (by kernel_rfl) (by kernel_rfl) (by kernel_rfl) (fun _ _ _ h => h) (by rfl) (by assumption) (v := ?_) ?_ ?_
                      rotate_left
                      · intro w hSw; (try dsimp only at hSw); go_simp; (try with_reducible rfl)
                      try simp only [Act.put, List.setIfInBounds_toArray, List.set_cons_zero, List.set_cons_succ]
                      have c21 := hBe.c 21 _ rfl
                      have f21 := hBe.fz 21
                      refine wpAnyH_ready (rs := [24]) (by kernel_rfl) (by simp) ?_
                      refine AllReadyH.cons (o := _) rfl (fun K hK => ?_) AllReadyH.nil
                      go_simp
                      (try go_wp2_with fail)
                      have hBf := (hBe).set 21 (.int .i64 0)
                      have hFf := (hFe).setCell (p := ⟨g, 21, none⟩) (by simp) (.int .i64 0)
                      simp only [List.setIfInBounds_toArray, List.set_cons_zero, List.set_cons_succ] at hBf
                      refine hK.out _ _ ?_ (fun hHeld => ?_)
                      · (try dsimp only); exact HXQ.out _ hFf
                      clear hK K c21 f21
                      try simp only [Act.put, List.setIfInBounds_toArray, List.set_cons_zero, List.set_cons_succ]
                      obtain ⟨vf, hvf⟩ : ∃ X, (ve.setCell ⟨g, 21, none⟩ (.int .i64 0)) = X := ⟨_, rfl⟩
                      rw [hvf] at hHeld hBf hFf ⊢
                      clear hvf hBe hFe
                      refine wpAnyH_done (by kernel_rfl) ?_ _
                      clear hHeld HXQ
                      have hB9 : Blk vf g (dhC { d with st := 2, k := ⟨s1, s2, s3, s4, s5, s6⟩, ck := sx, hc := false, ag := 0 }) 254 := hBf
                      have AK := Lib.hid (ASKW.out false _ (by simp [hz]) (HFg.out.trans hFf) hB9)
                      clear hB9 hBf hFf
                      go_wp2_with fail
                      refine AK.out.mono ?_
                      rintro e w9 hP
                      have HP := Lib.hid hP
                      obtain ⟨⟨A9, c9, rfl, _, _⟩, _⟩ := hP
                      clear AK
                      go_wp2_with fail
                      go_ret
                      exact HP.out
                  · have hn0 : (0 : Int) < n := by omega
                    as_aux_lemma =>
                      have HXQ : Hid (∀ W, Fr [g] w7 W → (fun W => (W.cell? ⟨q, 6, none⟩ = some (.int .u8 s1) ∧ W.cell? ⟨q, 7, none⟩ = some (.int .u8 s2) ∧ W.cell? ⟨q, 8, none⟩ = some (.int .u8 s3) ∧ W.cell? ⟨q, 9, none⟩ = some (.int .u8 s4) ∧ W.cell? ⟨q, 10, none⟩ = some (.int .u8 s5) ∧ W.cell? ⟨q, 11, none⟩ = some (.int .u8 s6)) ∧ Fr [g] w7 W) W) := Lib.hid fun W hW => by
                        have hq := hW.blk (HNC.out _ HF7.out) (by simpa using hqg)
                        exact ⟨⟨hq.c 6 _ rfl, hq.c 7 _ rfl, hq.c 8 _ rfl, hq.c 9 _ rfl, hq.c 10 _ rfl, hq.c 11 _ rfl⟩, hW⟩
                      clear y6 y7 y8 y9 y10 y11 g10 f10 g12 f12 g13 f13 g14 f14 g15 f15 g16 f16 g17 f17 g18 f18 g19 f19 g21 f21
                      go_wp2_with fail
                      refine wp_region_held_drew (S := (fun W => (W.cell? ⟨q, 6, none⟩ = some (.int .u8 s1) ∧ W.cell? ⟨q, 7, none⟩ = some (.int .u8 s2) ∧ W.cell? ⟨q, 8, none⟩ = some (.int .u8 s3) ∧ W.cell? ⟨q, 9, none⟩ = some (.int .u8 s4) ∧ W.cell? ⟨q, 10, none⟩ = some (.int .u8 s5) ∧ W.cell? ⟨q, 11, none⟩ = some (.int .u8 s6)) ∧ Fr [g] w7 W)) (by kernel_rfl) ?_ (fun hHeld => ?_)
                      · (try dsimp only); exact HXQ.out _ (Fr.refl [g] w7).drew
                      have hBa := HB7.out.drew
                      have hFa : Fr [g] w7 w7.drew := (Fr.refl [g] w7).drew
                      obtain ⟨va, hva⟩ : ∃ X, w7.drew = X := ⟨_, rfl⟩
                      rw [hva] at hHeld hBa hFa ⊢
                      clear hva
                      refine take_yes 0 108 rfl rfl (by kernel_rfl) (by kernel_rfl) (by kernel_rfl) (fun _ _ _ h => h) (by rfl) (by assumption) (v := ?_) ?_ ?_
                      rotate_left
                      · intro w hSw; (try dsimp only at hSw); go_simp; (try with_reducible rfl)
                      try simp only [Act.put, List.setIfInBounds_toArray, List.set_cons_zero, List.set_cons_succ]
                      refine take_yes 1 109 rfl rfl (by kernel_rfl) (by kernel_rfl) (by kernel_rfl) (fun _ _ _ h => h) (by rfl) (by assumption) (v := ?_) ?_ ?_
                      rotate_left
                      · intro w hSw; (try dsimp only at hSw); go_simp; (try with_reducible rfl)
                      try simp only [Act.put, List.setIfInBounds_toArray, List.set_cons_zero, List.set_cons_succ]
                      refine take_yes 2 110 rfl rfl (by kernel_rfl) (by kernel_rfl) (by kernel_rfl) (fun _ _ _ h => h) (by rfl) (by assumption) (v := ?_) ?_ ?_
                      rotate_left
                      · intro w hSw; (try dsimp only at hSw); go_simp; (try with_reducible rfl)
                      try simp only [Act.put, List.setIfInBounds_toArray, List.set_cons_zero, List.set_cons_succ]
                      refine take_yes 3 111 rfl rfl (by kernel_rfl) (by kernel_rfl) (by kernel_rfl) (fun _ _ _ h => h) (by rfl) (by assumption) (v := ?_) ?_ ?_
                      rotate_left
                      · intro w hSw; (try dsimp only at hSw); go_simp; (try with_reducible rfl)
                      try simp only [Act.put, List.setIfInBounds_toArray, List.set_cons_zero, List.set_cons_succ]
                      refine take_yes 4 112 rfl rfl (by kernel_rfl) (by kernel_rfl) (by kernel_rfl) (fun _ _ _ h => h) (by rfl) (by assumption) (v := ?_) ?_ ?_
                      rotate_left
                      · intro w hSw; (try dsimp only at hSw); go_simp; (try with_reducible rfl)
                      try simp only [Act.put, List.setIfInBounds_toArray, List.set_cons_zero, List.set_cons_succ]
                      refine take_yes 5 113 rfl rfl (by kernel_rfl) (by kernel_rfl) (by kernel_rfl) (fun _ _ _ h => h) (by rfl) (by assumption) (v := ?_) ?_ ?_
                      rotate_left
                      · intro w hSw; (try dsimp only at hSw); go_simp; (try with_reducible rfl)
                      try simp only [Act.put, List.setIfInBounds_toArray, List.set_cons_zero, List.set_cons_succ]
                      refine take_yes 6 114 rfl rfl (by kernel_rfl) (by kernel_rfl) (by kernel_rfl) (fun _ _ _ h => h) (by rfl) (by assumption) (v := .agg #[.int .u8 s1, .int .u8 s2, .int .u8 s3, .int .u8 s4, .int .u8 s5, .int .u8 s6]) ?_ ?_
                      · intro w hSw; (try dsimp only at hSw); go_simp
                      try simp only [Act.put, List.setIfInBounds_toArray, List.set_cons_zero, List.set_cons_succ]
                      refine take_yes 7 115 rfl rfl (by kernel_rfl) (by kernel_rfl) (by kernel_rfl) (fun _ _ _ h => h) (by rfl) (by assumption) (v := ?_) ?_ ?_
                      rotate_left
                      · intro w hSw; (try dsimp only at hSw); go_simp; (try with_reducible rfl)
                      try simp only [Act.put, List.setIfInBounds_toArray, List.set_cons_zero, List.set_cons_succ]
                      refine take_yes 8 116 rfl rfl (by kernel_rfl) (by kernel_rfl) (by kernel_rfl) (fun _ _ _ h => h) (by rfl) (by assumption) (v := ?_) ?_ ?_
                      rotate_left
                      · intro w hSw; (try dsimp only at hSw); go_simp; (try with_reducible rfl)
                      try simp only [Act.put, List.setIfInBounds_toArray, List.set_cons_zero, List.set_cons_succ]
                      refine take_yes 9 117 rfl rfl (by kernel_rfl) (by kernel_rfl) (by kernel_rfl) (fun _ _ _ h => h) (by rfl) (by assumption) (v := .bool true) ?_ ?_
                      · intro w hSw; (try dsimp only at hSw); go_simp; (try exact Nat.pos_of_ne_zero hz)
                      try simp only [Act.put, List.setIfInBounds_toArray, List.set_cons_zero, List.set_cons_succ]
                      refine take_yes 10 118 rfl rfl (by kernel_rfl) (by kernel_rfl) (by kernel_rfl) (fun _ _ _ h => h) (by rfl) (by assumption) (v := ?_) ?_ ?_
                      rotate_left
                      · intro w hSw; (try dsimp only at hSw); go_simp; (try with_reducible rfl)
                      try simp only [Act.put, List.setIfInBounds_toArray, List.set_cons_zero, List.set_cons_succ]
                      refine take_yes 11 119 rfl rfl (by kernel_rfl) (by kernel_rfl) (by kernel_rfl) (fun _ _ _ h => h) (by rfl) (by assumption) (v := ?_) ?_ ?_
                      rotate_left
                      · intro w hSw; (try dsimp only at hSw); go_simp; (try with_reducible rfl)
                      try simp only [Act.put, List.setIfInBounds_toArray, List.set_cons_zero, List.set_cons_succ]
                      have c10 := hBa.c 10 _ rfl
                      have f10 := hBa.fz 10
                      refine wpAnyH_ready (rs := [12]) (by kernel_rfl) (by simp) ?_
                      refine AllReadyH.cons (o := _) rfl (fun K hK => ?_) AllReadyH.nil
                      go_simp
                      (try go_wp2_with fail)
                      have hBb := (hBa).set 10 (.int .i64 2)
                      have hFb := (hFa).setCell (p := ⟨g, 10, none⟩) (by simp) (.int .i64 2)
                      simp only [dhC, List.setIfInBounds_toArray, List.set_cons_zero, List.set_cons_succ] at hBb
                      refine hK.out _ _ ?_ (fun hHeld => ?_)
                      · (try dsimp only); exact HXQ.out _ hFb
                      clear hK K c10 f10
                      try simp only [Act.put, List.setIfInBounds_toArray, List.set_cons_zero, List.set_cons_succ]
                      obtain ⟨vb, hvb⟩ : ∃ X, (va.setCell ⟨g, 10, none⟩ (.int .i64 2)) = X := ⟨_, rfl⟩
                      rw [hvb] at hHeld hBb hFb ⊢
                      clear hvb hBa hFa
                      refine take_yes 13 120 rfl rfl (by kernel_rfl) (by kernel_rfl) (by kernel_rfl) (fun _ _ _ h => h) (by rfl) (by assumption) (v := ?_) ?_ ?_
                      rotate_left
                      · intro w hSw; (try dsimp only at hSw); go_simp; (try with_reducible rfl)
                      try simp only [Act.put, List.setIfInBounds_toArray, List.set_cons_zero, List.set_cons_succ]
                      refine take_yes 14 121 rfl rfl (by kernel_rfl) (by kernel_rfl) (by kernel_rfl) (fun _ _ _ h => h) (by rfl) (by assumption) (v := ?_) ?_ ?_
                      rotate_left
                      · intro w hSw; (try dsimp only at hSw); go_simp; (try with_reducible rfl)
                      try simp only [Act.put, List.setIfInBounds_toArray, List.set_cons_zero, List.set_cons_succ]
                      have c12 := hBb.c 12 _ rfl
                      have f12 := hBb.fz 12
                      have c13 := hBb.c 13 _ rfl
                      have f13 := hBb.fz 13
                      have c14 := hBb.c 14 _ rfl
                      have f14 := hBb.fz 14
                      have c15 := hBb.c 15 _ rfl
                      have f15 := hBb.fz 15
                      have c16 := hBb.c 16 _ rfl
                      have f16 := hBb.fz 16
                      have c17 := hBb.c 17 _ rfl
                      have f17 := hBb.fz 17
                      refine wpAnyH_ready (rs := [15]) (by kernel_rfl) (by simp) ?_
                      refine AllReadyH.cons (o := _) rfl (fun K hK => ?_) AllReadyH.nil
                      go_simp
                      (try go_wp2_with fail)
                      have hBc := ((((((hBb).set 12 (.int .u8 s1)).set 13 (.int .u8 s2)).set 14 (.int .u8 s3)).set 15 (.int .u8 s4)).set 16 (.int .u8 s5)).set 17 (.int .u8 s6)
                      have hFc := ((((((hFb).setCell (p := ⟨g, 12, none⟩) (by simp) (.int .u8 s1)).setCell (p := ⟨g, 13, none⟩) (by simp) (.int .u8 s2)).setCell (p := ⟨g, 14, none⟩) (by simp) (.int .u8 s3)).setCell (p := ⟨g, 15, none⟩) (by simp) (.int .u8 s4)).setCell (p := ⟨g, 16, none⟩) (by simp) (.int .u8 s5)).setCell (p := ⟨g, 17, none⟩) (by simp) (.int .u8 s6)
                      simp only [List.setIfInBounds_toArray, List.set_cons_zero, List.set_cons_succ] at hBc
                      refine hK.out _ _ ?_ (fun hHeld => ?_)
                      · (try dsimp only); exact HXQ.out _ hFc
                      clear hK K c12 f12 c13 f13 c14 f14 c15 f15 c16 f16 c17 f17
                      try simp only [Act.put, List.setIfInBounds_toArray, List.set_cons_zero, List.set_cons_succ]
                      obtain ⟨vc, hvc⟩ : ∃ X, ((((((vb.setCell ⟨g, 12, none⟩ (.int .u8 s1)).setCell ⟨g, 13, none⟩ (.int .u8 s2)).setCell ⟨g, 14, none⟩ (.int .u8 s3)).setCell ⟨g, 15, none⟩ (.int .u8 s4)).setCell ⟨g, 16, none⟩ (.int .u8 s5)).setCell ⟨g, 17, none⟩ (.int .u8 s6)) = X := ⟨_, rfl⟩
                      rw [hvc] at hHeld hBc hFc ⊢
                      clear hvc hBb hFb
                      refine take_yes 16 122 rfl rfl (by kernel_rfl) (by kernel_rfl) (by kernel_rfl) (fun _ _ _ h => h) (by rfl) (by assumption) (v := ?_) ?_ ?_
                      rotate_left
                      · intro w hSw; (try dsimp only at hSw); go_simp; (try with_reducible rfl)
                      try simp only [Act.put, List.setIfInBounds_toArray, List.set_cons_zero, List.set_cons_succ]
                      refine take_yes 17 123 rfl rfl (by kernel_rfl) (by kernel_rfl) (by kernel_rfl) (fun _ _ _ h => h) (by rfl) (by assumption) (v := ?_) ?_ ?_
                      rotate_left
                      · intro w hSw; (try dsimp only at hSw); go_simp; (try with_reducible rfl)
                      try simp only [Act.put, List.setIfInBounds_toArray, List.set_cons_zero, List.set_cons_succ]
                      have c18 := hBc.c 18 _ rfl
                      have f18 := hBc.fz 18
                      refine wpAnyH_ready (rs := [18]) (by kernel_rfl) (by simp) ?_
                      refine AllReadyH.cons (o := _) rfl (fun K hK => ?_) AllReadyH.nil
                      go_simp
                      (try go_wp2_with fail)
                      have hBd := (hBc).set 18 (.string (B sx))
                      have hFd := (hFc).setCell (p := ⟨g, 18, none⟩) (by simp) (.string (B sx))
                      simp only [List.setIfInBounds_toArray, List.set_cons_zero, List.set_cons_succ] at hBd
                      refine hK.out _ _ ?_ (fun hHeld => ?_)
                      · (try dsimp only); exact HXQ.out _ hFd
                      clear hK K c18 f18
                      try simp only [Act.put, List.setIfInBounds_toArray, List.set_cons_zero, List.set_cons_succ]
                      obtain ⟨vd, hvd⟩ : ∃ X, (vc.setCell ⟨g, 18, none⟩ (.string (B sx))) = X := ⟨_, rfl⟩
                      rw [hvd] at hHeld hBd hFd ⊢
                      clear hvd hBc hFc
                      refine take_yes 19 124 rfl rfl (by kernel_rfl) (by kernel_rfl) (by kernel_rfl) (fun _ _ _ h => h) (by rfl) (by assumption) (v := ?_) ?_ ?_
                      rotate_left
                      · intro w hSw; (try dsimp only at hSw); go_simp; (try with_reducible rfl)
                      try simp only [Act.put, List.setIfInBounds_toArray, List.set_cons_zero, List.set_cons_succ]
                      refine take_yes 20 125 rfl rfl (by kernel_rfl) (by kernel_rfl) (by kernel_rfl) (fun _ _ _ h => h) (by rfl) (by assumption) (v := ?_) ?_ ?_
                      rotate_left
                      · intro w hSw; (try dsimp only at hSw); go_simp; (try with_reducible rfl)
                      try simp only [Act.put, List.setIfInBounds_toArray, List.set_cons_zero, List.set_cons_succ]
                      have c19 := hBd.c 19 _ rfl
                      have f19 := hBd.fz 19
                      refine wpAnyH_ready (rs := [21]) (by kernel_rfl) (by simp) ?_
                      refine AllReadyH.cons (o := _) rfl (fun K hK => ?_) AllReadyH.nil
                      go_simp
                      (try go_wp2_with fail)
                      have hBe := (hBd).set 19 (.bool true)
                      have hFe := (hFd).setCell (p := ⟨g, 19, none⟩) (by simp) (.bool true)
                      simp only [List.setIfInBounds_toArray, List.set_cons_zero, List.set_cons_succ] at hBe
                      refine hK.out _ _ ?_ (fun hHeld => ?_)
                      · (try dsimp only); exact HXQ.out _ hFe
                      clear hK K c19 f19
                      try simp only [Act.put, List.setIfInBounds_toArray, List.set_cons_zero, List.set_cons_succ]
                      obtain ⟨ve, hve⟩ : ∃ X, (vd.setCell ⟨g, 19, none⟩ (.bool true)) = X := ⟨_, rfl⟩
                      rw [hve] at hHeld hBe hFe ⊢
                      clear hve hBd hFd
                      refine take_yes 22 126 rfl rfl (by kernel_rfl) (by kernel_rfl) (by kernel_rfl) (fun _ _ _ h => h) (by rfl) (by assumption) (v := ?_) ?_ ?_
                      rotate_left
                      · intro w hSw; (try dsimp only at hSw); go_simp; (try with_reducible rfl)
                      try simp only [Act.put, List.setIfInBounds_toArray, List.set_cons_zero, List.set_cons_succ]
                      refine take_yes 23 127 rfl rfl (by kernel_rfl) (by kernel_rfl) (by kernel_rfl) (fun _ _ _ h => h) (by rfl) (by assumption) (v := ?_) ?_ ?_
                      rotate_left
                      · intro w hSw; (try dsimp only at hSw); go_simp; (try with_reducible rfl)
                      try simp only [Act.put, List.setIfInBounds_toArray, List.set_cons_zero, List.set_cons_succ]
                      have c21 := hBe.c 21 _ rfl
                      have f21 := hBe.fz 21
                      refine wpAnyH_ready (rs := [24]) (by kernel_rfl) (by simp) ?_
                      refine AllReadyH.cons (o := _) rfl (fun K hK => ?_) AllReadyH.nil
                      go_simp
                      (try go_wp2_with fail)
                      have hBf := (hBe).set 21 (.int .i64 0)
                      have hFf := (hFe).setCell (p := ⟨g, 21, none⟩) (by simp) (.int .i64 0)
                      simp only [List.setIfInBounds_toArray, List.set_cons_zero, List.set_cons_succ] at hBf
                      refine hK.out _ _ ?_ (fun hHeld => ?_)
                      · (try dsimp only); exact HXQ.out _ hFf
                      clear hK K c21 f21
                      try simp only [Act.put, List.setIfInBounds_toArray, List.set_cons_zero, List.set_cons_succ]
                      obtain ⟨vf, hvf⟩ : ∃ X, (ve.setCell ⟨g, 21, none⟩ (.int .i64 0)) = X := ⟨_, rfl⟩
                      rw [hvf] at hHeld hBf hFf ⊢
                      clear hvf hBe hFe
                      refine wpAnyH_done (by kernel_rfl) ?_ _
                      clear hHeld HXQ
                      have hB9 : Blk vf g (dhC { d with st := 2, k := ⟨s1, s2, s3, s4, s5, s6⟩, ck := sx, hc := true, ag := 0 }) 254 := hBf
                      have AK := Lib.hid (ASKW.out true _ (by simp; omega) (HFg.out.trans hFf) hB9)
                      clear hB9 hBf hFf
                      go_wp2_with fail
                      refine AK.out.mono ?_
                      rintro e w9 hP
                      have HP := Lib.hid hP
                      obtain ⟨⟨A9, c9, rfl, _, _⟩, _⟩ := hP
                      clear AK
                      go_wp2_with fail
                      go_ret
                      exact HP.out
                · have HGY : Hid (dTake d (⟨k1, k2, k3, k4, k5, k6⟩, ⟨s1, s2, s3, s4, s5, s6⟩, ty, d0) = (d, [])) := Lib.hid (by rw [HPT.out, HGT.out, if_neg hoff])
                  have HX : Hid (∀ W, Fr [] wr W → DOut w g (dTake d (⟨k1, k2, k3, k4, k5, k6⟩, ⟨s1, s2, s3, s4, s5, s6⟩, ty, d0)).2 (dTake d (⟨k1, k2, k3, k4, k5, k6⟩, ⟨s1, s2, s3, s4, s5, s6⟩, ty, d0)).1 (.returned (.slice none 0 0)) W) := Lib.hid fun W hW => by rw [HGY.out]; exact ⟨OutP.none_ ((HFC.out.trans (HFR.out.trans hW)).mono (by simp)), HBC.out W (HFR.out.trans hW)⟩
                  have HX0 := Lib.hid (HX.out _ (Fr.refl [] wr))
                  by_cases ho : offB d.sv l = true
                  · have hm : mn = false := by rw [← HMN.out]; simpa using fun hh => hoff ⟨ho, hh⟩
                    subst hm
                    rw [ho]
                    clear hoff ho HGT HPT
                    go_wp2_with fail
                    go_ret
                    exact HX0.out
                  · have ho2 : offB d.sv l = false := by simpa using ho
                    rw [ho2]
                    clear hoff ho ho2 HGT HPT
                    go_wp2_with fail
                    go_ret
                    exact HX0.out
          · rw [decide_eq_false hA]
            go_upto_region 17 with fail
            go_cut [130] (fun v wx => v = .bool (decide (d.st = 2 ∧ c = 101 ∧ e1 = true ∧ mn = true)) ∧ Fr [] wA wx)
            case first =>
              by_cases h1 : d.st = 2
              · have q1 : (d.st == 2) = true := by simpa using h1
                by_cases h2 : c = 101
                · have q2 : (c == 101) = true := by simpa using h2
                  cases e1 with
                  | true =>
                    cases mn with
                    | true =>
                      as_aux_lemma =>
                        have HV := Lib.hid (show decide (d.st = 2 ∧ c = 101 ∧ true = true ∧ true = true) = true from decide_eq_true ⟨h1, h2, rfl, rfl⟩)
                        go_wp2_with fail
                        refine wp_region_held_drew (S := (fun W => (W.cell? ⟨g, 10, none⟩ = some (.int .i64 d.st) ∧ W.cell? ⟨g, 11, none⟩ = some (.int .i64 d.ss) ∧ W.cell? ⟨qd, 0, none⟩ = some (.int .i64 c) ∧ W.cell? ⟨qd, 1, none⟩ = some (.int .i64 ss) ∧ W.cell? ⟨q, 6, none⟩ = some (.int .u8 s1) ∧ W.cell? ⟨q, 7, none⟩ = some (.int .u8 s2) ∧ W.cell? ⟨q, 8, none⟩ = some (.int .u8 s3) ∧ W.cell? ⟨q, 9, none⟩ = some (.int .u8 s4) ∧ W.cell? ⟨q, 10, none⟩ = some (.int .u8 s5) ∧ W.cell? ⟨q, 11, none⟩ = some (.int .u8 s6) ∧ W.cell? ⟨g, 12, none⟩ = some (.int .u8 d.k.a) ∧ W.cell? ⟨g, 13, none⟩ = some (.int .u8 d.k.b) ∧ W.cell? ⟨g, 14, none⟩ = some (.int .u8 d.k.c) ∧ W.cell? ⟨g, 15, none⟩ = some (.int .u8 d.k.d) ∧ W.cell? ⟨g, 16, none⟩ = some (.int .u8 d.k.e) ∧ W.cell? ⟨g, 17, none⟩ = some (.int .u8 d.k.f)) ∧ Fr [] wA W)) (by kernel_rfl) ?_ (fun hHeld => ?_)
                        · (try dsimp only); exact HCX.out _ (Fr.refl [] wA).drew
                        refine take_yes 0 131 rfl rfl (by kernel_rfl) (by kernel_rfl) (by kernel_rfl) (fun _ _ _ h => h) (by rfl) (by assumption) (v := ?_) ?_ ?_
                        rotate_left
                        · intro w hSw; (try dsimp only at hSw); go_simp; (try with_reducible rfl)
                        try simp only [Act.put, List.setIfInBounds_toArray, List.set_cons_zero, List.set_cons_succ]
                        refine take_yes 1 132 rfl rfl (by kernel_rfl) (by kernel_rfl) (by kernel_rfl) (fun _ _ _ h => h) (by rfl) (by assumption) (v := ?_) ?_ ?_
                        rotate_left
                        · intro w hSw; (try dsimp only at hSw); go_simp; (try with_reducible rfl)
                        try simp only [Act.put, List.setIfInBounds_toArray, List.set_cons_zero, List.set_cons_succ]
                        refine take_yes 2 133 rfl rfl (by kernel_rfl) (by kernel_rfl) (by kernel_rfl) (fun _ _ _ h => h) (by rfl) (by assumption) (v := ?_) ?_ ?_
                        rotate_left
                        · intro w hSw; (try dsimp only at hSw); go_simp; (try with_reducible rfl)
                        try simp only [Act.put, List.setIfInBounds_toArray, List.set_cons_zero, List.set_cons_succ]
                        refine take_yes 3 134 rfl rfl (by kernel_rfl) (by kernel_rfl) (by kernel_rfl) (fun _ _ _ h => h) (by rfl) (by assumption) (v := ?_) ?_ ?_
                        rotate_left
                        · intro w hSw; (try dsimp only at hSw); go_simp; (try with_reducible rfl)
                        try simp only [Act.put, List.setIfInBounds_toArray, List.set_cons_zero, List.set_cons_succ]
                        refine take_yes 4 135 rfl rfl (by kernel_rfl) (by kernel_rfl) (by kernel_rfl) (fun _ _ _ h => h) (by rfl) (by assumption) (v := .bool true) ?_ ?_
                        · intro w hSw; (try dsimp only at hSw); go_simp
                        try simp only [Act.put, List.setIfInBounds_toArray, List.set_cons_zero, List.set_cons_succ]
                        refine take_yes 5 136 rfl rfl (by kernel_rfl) (by kernel_rfl) (by kernel_rfl) (fun _ _ _ h => h) (by rfl) (by assumption) (v := ?_) ?_ ?_
                        rotate_left
                        · intro w hSw; (try dsimp only at hSw); go_simp; (try with_reducible rfl)
                        try simp only [Act.put, List.setIfInBounds_toArray, List.set_cons_zero, List.set_cons_succ]
                        refine take_yes 6 137 rfl rfl (by kernel_rfl) (by kernel_rfl) (by kernel_rfl) (fun _ _ _ h => h) (by rfl) (by assumption) (v := ?_) ?_ ?_
                        rotate_left
                        · intro w hSw; (try dsimp only at hSw); go_simp; (try with_reducible rfl)
                        try simp only [Act.put, List.setIfInBounds_toArray, List.set_cons_zero, List.set_cons_succ]
                        refine take_yes 7 138 rfl rfl (by kernel_rfl) (by kernel_rfl) (by kernel_rfl) (fun _ _ _ h => h) (by rfl) (by assumption) (v := ?_) ?_ ?_
                        rotate_left
                        · intro w hSw; (try dsimp only at hSw); go_simp; (try with_reducible rfl)
                        try simp only [Act.put, List.setIfInBounds_toArray, List.set_cons_zero, List.set_cons_succ]
                        refine take_yes 8 139 rfl rfl (by kernel_rfl) (by kernel_rfl) (by kernel_rfl) (fun _ _ _ h => h) (by rfl) (by assumption) (v := .bool true) ?_ ?_
                        · intro w hSw; (try dsimp only at hSw); go_simp
                        try simp only [Act.put, List.setIfInBounds_toArray, List.set_cons_zero, List.set_cons_succ]
                        refine take_yes 9 140 rfl rfl (by kernel_rfl) (by kernel_rfl) (by kernel_rfl) (fun _ _ _ h => h) (by rfl) (by assumption) (v := ?_) ?_ ?_
                        rotate_left
                        · intro w hSw; (try dsimp only at hSw); go_simp; (try with_reducible rfl)
                        try simp only [Act.put, List.setIfInBounds_toArray, List.set_cons_zero, List.set_cons_succ]
                        refine take_yes 10 141 rfl rfl (by kernel_rfl) (by kernel_rfl) (by kernel_rfl) (fun _ _ _ h => h) (by rfl) (by assumption) (v := ?_) ?_ ?_
                        rotate_left
                        · intro w hSw; (try dsimp only at hSw); go_simp; (try with_reducible rfl)
                        try simp only [Act.put, List.setIfInBounds_toArray, List.set_cons_zero, List.set_cons_succ]
                        refine take_yes 11 142 rfl rfl (by kernel_rfl) (by kernel_rfl) (by kernel_rfl) (fun _ _ _ h => h) (by rfl) (by assumption) (v := ?_) ?_ ?_
                        rotate_left
                        · intro w hSw; (try dsimp only at hSw); go_simp; (try with_reducible rfl)
                        try simp only [Act.put, List.setIfInBounds_toArray, List.set_cons_zero, List.set_cons_succ]
                        refine take_yes 12 143 rfl rfl (by kernel_rfl) (by kernel_rfl) (by kernel_rfl) (fun _ _ _ h => h) (by rfl) (by assumption) (v := ?_) ?_ ?_
                        rotate_left
                        · intro w hSw; (try dsimp only at hSw); go_simp; (try with_reducible rfl)
                        try simp only [Act.put, List.setIfInBounds_toArray, List.set_cons_zero, List.set_cons_succ]
                        refine take_yes 13 144 rfl rfl (by kernel_rfl) (by kernel_rfl) (by kernel_rfl) (fun _ _ _ h => h) (by rfl) (by assumption) (v := ?_) ?_ ?_
                        rotate_left
                        · intro w hSw; (try dsimp only at hSw); go_simp; (try with_reducible rfl)
                        try simp only [Act.put, List.setIfInBounds_toArray, List.set_cons_zero, List.set_cons_succ]
                        refine take_yes 14 145 rfl rfl (by kernel_rfl) (by kernel_rfl) (by kernel_rfl) (fun _ _ _ h => h) (by rfl) (by assumption) (v := ?_) ?_ ?_
                        rotate_left
                        · intro w hSw; (try dsimp only at hSw); go_simp; (try with_reducible rfl)
                        try simp only [Act.put, List.setIfInBounds_toArray, List.set_cons_zero, List.set_cons_succ]
                        refine take_yes 15 146 rfl rfl (by kernel_rfl) (by kernel_rfl) (by kernel_rfl) (fun _ _ _ h => h) (by rfl) (by assumption) (v := ?_) ?_ ?_
                        rotate_left
                        · intro w hSw; (try dsimp only at hSw); go_simp; (try with_reducible rfl)
                        try simp only [Act.put, List.setIfInBounds_toArray, List.set_cons_zero, List.set_cons_succ]
                        refine take_yes 16 147 rfl rfl (by kernel_rfl) (by kernel_rfl) (by kernel_rfl) (fun _ _ _ h => h) (by rfl) (by assumption) (v := ?_) ?_ ?_
                        rotate_left
                        · intro w hSw; (try dsimp only at hSw); go_simp; (try with_reducible rfl)
                        try simp only [Act.put, List.setIfInBounds_toArray, List.set_cons_zero, List.set_cons_succ]
                        refine take_yes 17 148 rfl rfl (by kernel_rfl) (by kernel_rfl) (by kernel_rfl) (fun _ _ _ h => h) (by rfl) (by assumption) (v := .bool true) ?_ ?_
                        · intro w hSw; (try dsimp only at hSw); go_simp
                        try simp only [Act.put, List.setIfInBounds_toArray, List.set_cons_zero, List.set_cons_succ]
                        refine take_yes 18 149 rfl rfl (by kernel_rfl) (by kernel_rfl) (by kernel_rfl) (fun _ _ _ h => h) (by rfl) (by assumption) (v := ?_) ?_ ?_
                        rotate_left
                        · intro w hSw; (try dsimp only at hSw); go_simp; (try with_reducible rfl)
                        try simp only [Act.put, List.setIfInBounds_toArray, List.set_cons_zero, List.set_cons_succ]
                        refine take_yes 19 150 rfl rfl (by kernel_rfl) (by kernel_rfl) (by kernel_rfl) (fun _ _ _ h => h) (by rfl) (by assumption) (v := ?_) ?_ ?_
                        rotate_left
                        · intro w hSw; (try dsimp only at hSw); go_simp; (try with_reducible rfl)
                        try simp only [Act.put, List.setIfInBounds_toArray, List.set_cons_zero, List.set_cons_succ]
                        refine take_yes 20 151 rfl rfl (by kernel_rfl) (by kernel_rfl) (by kernel_rfl) (fun _ _ _ h => h) (by rfl) (by assumption) (v := ?_) ?_ ?_
                        rotate_left
                        · intro w hSw; (try dsimp only at hSw); go_simp; (try with_reducible rfl)
                        try simp only [Act.put, List.setIfInBounds_toArray, List.set_cons_zero, List.set_cons_succ]
                        refine take_yes 21 152 rfl rfl (by kernel_rfl) (by kernel_rfl) (by kernel_rfl) (fun _ _ _ h => h) (by rfl) (by assumption) (v := ?_) ?_ ?_
                        rotate_left
                        · intro w hSw; (try dsimp only at hSw); go_simp; (try with_reducible rfl)
                        try simp only [Act.put, List.setIfInBounds_toArray, List.set_cons_zero, List.set_cons_succ]
                        refine take_yes 22 130 rfl rfl (by kernel_rfl) (by kernel_rfl) (by kernel_rfl) (fun _ _ _ h => h) (by rfl) (by assumption) (v := ?_) ?_ ?_
                        rotate_left
                        · intro w hSw; (try dsimp only at hSw); go_simp; (try with_reducible rfl)
                        try simp only [Act.put, List.setIfInBounds_toArray, List.set_cons_zero, List.set_cons_succ]
                        refine wpAnyH_done (by kernel_rfl) ?_ _
                        have HZ := Lib.hid (And.right (show _ ∧ _ from by assumption))
                        go_wp2_with fail
                        go_meet
                        exact ⟨by rw [HV.out], HZ.out⟩
                    | false =>
                      as_aux_lemma =>
                        have HV := Lib.hid (show decide (d.st = 2 ∧ c = 101 ∧ true = true ∧ false = true) = false from decide_eq_false (fun hh => absurd hh.2.2.2 (by decide)))
                        go_wp2_with fail
                        refine wp_region_held_drew (S := (fun W => (W.cell? ⟨g, 10, none⟩ = some (.int .i64 d.st) ∧ W.cell? ⟨g, 11, none⟩ = some (.int .i64 d.ss) ∧ W.cell? ⟨qd, 0, none⟩ = some (.int .i64 c) ∧ W.cell? ⟨qd, 1, none⟩ = some (.int .i64 ss) ∧ W.cell? ⟨q, 6, none⟩ = some (.int .u8 s1) ∧ W.cell? ⟨q, 7, none⟩ = some (.int .u8 s2) ∧ W.cell? ⟨q, 8, none⟩ = some (.int .u8 s3) ∧ W.cell? ⟨q, 9, none⟩ = some (.int .u8 s4) ∧ W.cell? ⟨q, 10, none⟩ = some (.int .u8 s5) ∧ W.cell? ⟨q, 11, none⟩ = some (.int .u8 s6) ∧ W.cell? ⟨g, 12, none⟩ = some (.int .u8 d.k.a) ∧ W.cell? ⟨g, 13, none⟩ = some (.int .u8 d.k.b) ∧ W.cell? ⟨g, 14, none⟩ = some (.int .u8 d.k.c) ∧ W.cell? ⟨g, 15, none⟩ = some (.int .u8 d.k.d) ∧ W.cell? ⟨g, 16, none⟩ = some (.int .u8 d.k.e) ∧ W.cell? ⟨g, 17, none⟩ = some (.int .u8 d.k.f)) ∧ Fr [] wA W)) (by kernel_rfl) ?_ (fun hHeld => ?_)
                        · (try dsimp only); exact HCX.out _ (Fr.refl [] wA).drew
                        refine take_yes 0 131 rfl rfl (by kernel_rfl) (by kernel_rfl) (by kernel_rfl) (fun _ _ _ h => h) (by rfl) (by assumption) (v := ?_) ?_ ?_
                        rotate_left
                        · intro w hSw; (try dsimp only at hSw); go_simp; (try with_reducible rfl)
                        try simp only [Act.put, List.setIfInBounds_toArray, List.set_cons_zero, List.set_cons_succ]
                        refine take_yes 1 132 rfl rfl (by kernel_rfl) (by kernel_rfl) (by kernel_rfl) (fun _ _ _ h => h) (by rfl) (by assumption) (v := ?_) ?_ ?_
                        rotate_left
                        · intro w hSw; (try dsimp only at hSw); go_simp; (try with_reducible rfl)
                        try simp only [Act.put, List.setIfInBounds_toArray, List.set_cons_zero, List.set_cons_succ]
                        refine take_yes 2 133 rfl rfl (by kernel_rfl) (by kernel_rfl) (by kernel_rfl) (fun _ _ _ h => h) (by rfl) (by assumption) (v := ?_) ?_ ?_
                        rotate_left
                        · intro w hSw; (try dsimp only at hSw); go_simp; (try with_reducible rfl)
                        try simp only [Act.put, List.setIfInBounds_toArray, List.set_cons_zero, List.set_cons_succ]
                        refine take_yes 3 134 rfl rfl (by kernel_rfl) (by kernel_rfl) (by kernel_rfl) (fun _ _ _ h => h) (by rfl) (by assumption) (v := ?_) ?_ ?_
                        rotate_left
                        · intro w hSw; (try dsimp only at hSw); go_simp; (try with_reducible rfl)
                        try simp only [Act.put, List.setIfInBounds_toArray, List.set_cons_zero, List.set_cons_succ]
                        refine take_yes 4 135 rfl rfl (by kernel_rfl) (by kernel_rfl) (by kernel_rfl) (fun _ _ _ h => h) (by rfl) (by assumption) (v := .bool true) ?_ ?_
                        · intro w hSw; (try dsimp only at hSw); go_simp
                        try simp only [Act.put, List.setIfInBounds_toArray, List.set_cons_zero, List.set_cons_succ]
                        refine take_yes 5 136 rfl rfl (by kernel_rfl) (by kernel_rfl) (by kernel_rfl) (fun _ _ _ h => h) (by rfl) (by assumption) (v := ?_) ?_ ?_
                        rotate_left
                        · intro w hSw; (try dsimp only at hSw); go_simp; (try with_reducible rfl)
                        try simp only [Act.put, List.setIfInBounds_toArray, List.set_cons_zero, List.set_cons_succ]
                        refine take_yes 6 137 rfl rfl (by kernel_rfl) (by kernel_rfl) (by kernel_rfl) (fun _ _ _ h => h) (by rfl) (by assumption) (v := ?_) ?_ ?_
                        rotate_left
                        · intro w hSw; (try dsimp only at hSw); go_simp; (try with_reducible rfl)
                        try simp only [Act.put, List.setIfInBounds_toArray, List.set_cons_zero, List.set_cons_succ]
                        refine take_yes 7 138 rfl rfl (by kernel_rfl) (by kernel_rfl) (by kernel_rfl) (fun _ _ _ h => h) (by rfl) (by assumption) (v := ?_) ?_ ?_
                        rotate_left
                        · intro w hSw; (try dsimp only at hSw); go_simp; (try with_reducible rfl)
                        try simp only [Act.put, List.setIfInBounds_toArray, List.set_cons_zero, List.set_cons_succ]
                        refine take_yes 8 139 rfl rfl (by kernel_rfl) (by kernel_rfl) (by kernel_rfl) (fun _ _ _ h => h) (by rfl) (by assumption) (v := .bool true) ?_ ?_
                        · intro w hSw; (try dsimp only at hSw); go_simp
                        try simp only [Act.put, List.setIfInBounds_toArray, List.set_cons_zero, List.set_cons_succ]
                        refine take_yes 9 140 rfl rfl (by kernel_rfl) (by kernel_rfl) (by kernel_rfl) (fun _ _ _ h => h) (by rfl) (by assumption) (v := ?_) ?_ ?_
                        rotate_left
                        · intro w hSw; (try dsimp only at hSw); go_simp; (try with_reducible rfl)
                        try simp only [Act.put, List.setIfInBounds_toArray, List.set_cons_zero, List.set_cons_succ]
                        refine take_yes 10 141 rfl rfl (by kernel_rfl) (by kernel_rfl) (by kernel_rfl) (fun _ _ _ h => h) (by rfl) (by assumption) (v := ?_) ?_ ?_
                        rotate_left
                        · intro w hSw; (try dsimp only at hSw); go_simp; (try with_reducible rfl)
                        try simp only [Act.put, List.setIfInBounds_toArray, List.set_cons_zero, List.set_cons_succ]
                        refine take_yes 11 142 rfl rfl (by kernel_rfl) (by kernel_rfl) (by kernel_rfl) (fun _ _ _ h => h) (by rfl) (by assumption) (v := ?_) ?_ ?_
                        rotate_left
                        · intro w hSw; (try dsimp only at hSw); go_simp; (try with_reducible rfl)
                        try simp only [Act.put, List.setIfInBounds_toArray, List.set_cons_zero, List.set_cons_succ]
                        refine take_yes 12 143 rfl rfl (by kernel_rfl) (by kernel_rfl) (by kernel_rfl) (fun _ _ _ h => h) (by rfl) (by assumption) (v := ?_) ?_ ?_
                        rotate_left
                        · intro w hSw; (try dsimp only at hSw); go_simp; (try with_reducible rfl)
                        try simp only [Act.put, List.setIfInBounds_toArray, List.set_cons_zero, List.set_cons_succ]
                        refine take_yes 13 144 rfl rfl (by kernel_rfl) (by kernel_rfl) (by kernel_rfl) (fun _ _ _ h => h) (by rfl) (by assumption) (v := ?_) ?_ ?_
                        rotate_left
                        · intro w hSw; (try dsimp only at hSw); go_simp; (try with_reducible rfl)
                        try simp only [Act.put, List.setIfInBounds_toArray, List.set_cons_zero, List.set_cons_succ]
                        refine take_yes 14 145 rfl rfl (by kernel_rfl) (by kernel_rfl) (by kernel_rfl) (fun _ _ _ h => h) (by rfl) (by assumption) (v := ?_) ?_ ?_
                        rotate_left
                        · intro w hSw; (try dsimp only at hSw); go_simp; (try with_reducible rfl)
                        try simp only [Act.put, List.setIfInBounds_toArray, List.set_cons_zero, List.set_cons_succ]
                        refine take_yes 15 146 rfl rfl (by kernel_rfl) (by kernel_rfl) (by kernel_rfl) (fun _ _ _ h => h) (by rfl) (by assumption) (v := ?_) ?_ ?_
                        rotate_left
                        · intro w hSw; (try dsimp only at hSw); go_simp; (try with_reducible rfl)
                        try simp only [Act.put, List.setIfInBounds_toArray, List.set_cons_zero, List.set_cons_succ]
                        refine take_yes 16 147 rfl rfl (by kernel_rfl) (by kernel_rfl) (by kernel_rfl) (fun _ _ _ h => h) (by rfl) (by assumption) (v := ?_) ?_ ?_
                        rotate_left
                        · intro w hSw; (try dsimp only at hSw); go_simp; (try with_reducible rfl)
                        try simp only [Act.put, List.setIfInBounds_toArray, List.set_cons_zero, List.set_cons_succ]
                        refine take_yes 17 148 rfl rfl (by kernel_rfl) (by kernel_rfl) (by kernel_rfl) (fun _ _ _ h => h) (by rfl) (by assumption) (v := .bool true) ?_ ?_
                        · intro w hSw; (try dsimp only at hSw); go_simp
                        try simp only [Act.put, List.setIfInBounds_toArray, List.set_cons_zero, List.set_cons_succ]
                        refine take_yes 18 149 rfl rfl (by kernel_rfl) (by kernel_rfl) (by kernel_rfl) (fun _ _ _ h => h) (by rfl) (by assumption) (v := ?_) ?_ ?_
                        rotate_left
                        · intro w hSw; (try dsimp only at hSw); go_simp; (try with_reducible rfl)
                        try simp only [Act.put, List.setIfInBounds_toArray, List.set_cons_zero, List.set_cons_succ]
                        refine take_yes 19 150 rfl rfl (by kernel_rfl) (by kernel_rfl) (by kernel_rfl) (fun _ _ _ h => h) (by rfl) (by assumption) (v := ?_) ?_ ?_
                        rotate_left
                        · intro w hSw; (try dsimp only at hSw); go_simp; (try with_reducible rfl)
                        try simp only [Act.put, List.setIfInBounds_toArray, List.set_cons_zero, List.set_cons_succ]
                        refine take_yes 20 151 rfl rfl (by kernel_rfl) (by kernel_rfl) (by kernel_rfl) (fun _ _ _ h => h) (by rfl) (by assumption) (v := ?_) ?_ ?_
                        rotate_left
                        · intro w hSw; (try dsimp only at hSw); go_simp; (try with_reducible rfl)
                        try simp only [Act.put, List.setIfInBounds_toArray, List.set_cons_zero, List.set_cons_succ]
                        refine take_yes 21 152 rfl rfl (by kernel_rfl) (by kernel_rfl) (by kernel_rfl) (fun _ _ _ h => h) (by rfl) (by assumption) (v := ?_) ?_ ?_
                        rotate_left
                        · intro w hSw; (try dsimp only at hSw); go_simp; (try with_reducible rfl)
                        try simp only [Act.put, List.setIfInBounds_toArray, List.set_cons_zero, List.set_cons_succ]
                        refine take_yes 22 130 rfl rfl (by kernel_rfl) (by kernel_rfl) (by kernel_rfl) (fun _ _ _ h => h) (by rfl) (by assumption) (v := ?_) ?_ ?_
                        rotate_left
                        · intro w hSw; (try dsimp only at hSw); go_simp; (try with_reducible rfl)
                        try simp only [Act.put, List.setIfInBounds_toArray, List.set_cons_zero, List.set_cons_succ]
                        refine wpAnyH_done (by kernel_rfl) ?_ _
                        have HZ := Lib.hid (And.right (show _ ∧ _ from by assumption))
                        go_wp2_with fail
                        go_meet
                        exact ⟨by rw [HV.out], HZ.out⟩
                  | false =>
                    as_aux_lemma =>
                      have HV := Lib.hid (show decide (d.st = 2 ∧ c = 101 ∧ false = true ∧ mn = true) = false from decide_eq_false (fun hh => absurd hh.2.2.1 (by decide)))
                      go_wp2_with fail
                      refine wp_region_held_drew (S := (fun W => (W.cell? ⟨g, 10, none⟩ = some (.int .i64 d.st) ∧ W.cell? ⟨g, 11, none⟩ = some (.int .i64 d.ss) ∧ W.cell? ⟨qd, 0, none⟩ = some (.int .i64 c) ∧ W.cell? ⟨qd, 1, none⟩ = some (.int .i64 ss) ∧ W.cell? ⟨q, 6, none⟩ = some (.int .u8 s1) ∧ W.cell? ⟨q, 7, none⟩ = some (.int .u8 s2) ∧ W.cell? ⟨q, 8, none⟩ = some (.int .u8 s3) ∧ W.cell? ⟨q, 9, none⟩ = some (.int .u8 s4) ∧ W.cell? ⟨q, 10, none⟩ = some (.int .u8 s5) ∧ W.cell? ⟨q, 11, none⟩ = some (.int .u8 s6) ∧ W.cell? ⟨g, 12, none⟩ = some (.int .u8 d.k.a) ∧ W.cell? ⟨g, 13, none⟩ = some (.int .u8 d.k.b) ∧ W.cell? ⟨g, 14, none⟩ = some (.int .u8 d.k.c) ∧ W.cell? ⟨g, 15, none⟩ = some (.int .u8 d.k.d) ∧ W.cell? ⟨g, 16, none⟩ = some (.int .u8 d.k.e) ∧ W.cell? ⟨g, 17, none⟩ = some (.int .u8 d.k.f)) ∧ Fr [] wA W)) (by kernel_rfl) ?_ (fun hHeld => ?_)
                      · (try dsimp only); exact HCX.out _ (Fr.refl [] wA).drew
                      refine take_yes 0 131 rfl rfl (by kernel_rfl) (by kernel_rfl) (by kernel_rfl) (fun _ _ _ h => h) (by rfl) (by assumption) (v := ?_) ?_ ?_
                      rotate_left
                      · intro w hSw; (try dsimp only at hSw); go_simp; (try with_reducible rfl)
                      try simp only [Act.put, List.setIfInBounds_toArray, List.set_cons_zero, List.set_cons_succ]
                      refine take_yes 1 132 rfl rfl (by kernel_rfl) (by kernel_rfl) (by kernel_rfl) (fun _ _ _ h => h) (by rfl) (by assumption) (v := ?_) ?_ ?_
                      rotate_left
                      · intro w hSw; (try dsimp only at hSw); go_simp; (try with_reducible rfl)
                      try simp only [Act.put, List.setIfInBounds_toArray, List.set_cons_zero, List.set_cons_succ]
                      refine take_yes 2 133 rfl rfl (by kernel_rfl) (by kernel_rfl) (by kernel_rfl) (fun _ _ _ h => h) (by rfl) (by assumption) (v := ?_) ?_ ?_
                      rotate_left
                      · intro w hSw; (try dsimp only at hSw); go_simp; (try with_reducible rfl)
                      try simp only [Act.put, List.setIfInBounds_toArray, List.set_cons_zero, List.set_cons_succ]
                      refine take_yes 3 134 rfl rfl (by kernel_rfl) (by kernel_rfl) (by kernel_rfl) (fun _ _ _ h => h) (by rfl) (by assumption) (v := ?_) ?_ ?_
                      rotate_left
                      · intro w hSw; (try dsimp only at hSw); go_simp; (try with_reducible rfl)
                      try simp only [Act.put, List.setIfInBounds_toArray, List.set_cons_zero, List.set_cons_succ]
                      refine take_yes 4 135 rfl rfl (by kernel_rfl) (by kernel_rfl) (by kernel_rfl) (fun _ _ _ h => h) (by rfl) (by assumption) (v := .bool true) ?_ ?_
                      · intro w hSw; (try dsimp only at hSw); go_simp
                      try simp only [Act.put, List.setIfInBounds_toArray, List.set_cons_zero, List.set_cons_succ]
                      refine take_yes 5 136 rfl rfl (by kernel_rfl) (by kernel_rfl) (by kernel_rfl) (fun _ _ _ h => h) (by rfl) (by assumption) (v := ?_) ?_ ?_
                      rotate_left
                      · intro w hSw; (try dsimp only at hSw); go_simp; (try with_reducible rfl)
                      try simp only [Act.put, List.setIfInBounds_toArray, List.set_cons_zero, List.set_cons_succ]
                      refine take_yes 6 137 rfl rfl (by kernel_rfl) (by kernel_rfl) (by kernel_rfl) (fun _ _ _ h => h) (by rfl) (by assumption) (v := ?_) ?_ ?_
                      rotate_left
                      · intro w hSw; (try dsimp only at hSw); go_simp; (try with_reducible rfl)
                      try simp only [Act.put, List.setIfInBounds_toArray, List.set_cons_zero, List.set_cons_succ]
                      refine take_yes 7 138 rfl rfl (by kernel_rfl) (by kernel_rfl) (by kernel_rfl) (fun _ _ _ h => h) (by rfl) (by assumption) (v := ?_) ?_ ?_
                      rotate_left
                      · intro w hSw; (try dsimp only at hSw); go_simp; (try with_reducible rfl)
                      try simp only [Act.put, List.setIfInBounds_toArray, List.set_cons_zero, List.set_cons_succ]
                      refine take_yes 8 139 rfl rfl (by kernel_rfl) (by kernel_rfl) (by kernel_rfl) (fun _ _ _ h => h) (by rfl) (by assumption) (v := .bool true) ?_ ?_
                      · intro w hSw; (try dsimp only at hSw); go_simp
                      try simp only [Act.put, List.setIfInBounds_toArray, List.set_cons_zero, List.set_cons_succ]
                      refine take_yes 9 140 rfl rfl (by kernel_rfl) (by kernel_rfl) (by kernel_rfl) (fun _ _ _ h => h) (by rfl) (by assumption) (v := ?_) ?_ ?_
                      rotate_left
                      · intro w hSw; (try dsimp only at hSw); go_simp; (try with_reducible rfl)
                      try simp only [Act.put, List.setIfInBounds_toArray, List.set_cons_zero, List.set_cons_succ]
                      refine take_yes 10 141 rfl rfl (by kernel_rfl) (by kernel_rfl) (by kernel_rfl) (fun _ _ _ h => h) (by rfl) (by assumption) (v := ?_) ?_ ?_
                      rotate_left
                      · intro w hSw; (try dsimp only at hSw); go_simp; (try with_reducible rfl)
                      try simp only [Act.put, List.setIfInBounds_toArray, List.set_cons_zero, List.set_cons_succ]
                      refine take_yes 11 142 rfl rfl (by kernel_rfl) (by kernel_rfl) (by kernel_rfl) (fun _ _ _ h => h) (by rfl) (by assumption) (v := ?_) ?_ ?_
                      rotate_left
                      · intro w hSw; (try dsimp only at hSw); go_simp; (try with_reducible rfl)
                      try simp only [Act.put, List.setIfInBounds_toArray, List.set_cons_zero, List.set_cons_succ]
                      refine take_yes 12 143 rfl rfl (by kernel_rfl) (by kernel_rfl) (by kernel_rfl) (fun _ _ _ h => h) (by rfl) (by assumption) (v := ?_) ?_ ?_
                      rotate_left
                      · intro w hSw; (try dsimp only at hSw); go_simp; (try with_reducible rfl)
                      try simp only [Act.put, List.setIfInBounds_toArray, List.set_cons_zero, List.set_cons_succ]
                      refine take_yes 13 144 rfl rfl (by kernel_rfl) (by kernel_rfl) (by kernel_rfl) (fun _ _ _ h => h) (by rfl) (by assumption) (v := ?_) ?_ ?_
                      rotate_left
                      · intro w hSw; (try dsimp only at hSw); go_simp; (try with_reducible rfl)
                      try simp only [Act.put, List.setIfInBounds_toArray, List.set_cons_zero, List.set_cons_succ]
                      refine take_yes 14 145 rfl rfl (by kernel_rfl) (by kernel_rfl) (by kernel_rfl) (fun _ _ _ h => h) (by rfl) (by assumption) (v := ?_) ?_ ?_
                      rotate_left
                      · intro w hSw; (try dsimp only at hSw); go_simp; (try with_reducible rfl)
                      try simp only [Act.put, List.setIfInBounds_toArray, List.set_cons_zero, List.set_cons_succ]
                      refine take_yes 15 146 rfl rfl (by kernel_rfl) (by kernel_rfl) (by kernel_rfl) (fun _ _ _ h => h) (by rfl) (by assumption) (v := ?_) ?_ ?_
                      rotate_left
                      · intro w hSw; (try dsimp only at hSw); go_simp; (try with_reducible rfl)
                      try simp only [Act.put, List.setIfInBounds_toArray, List.set_cons_zero, List.set_cons_succ]
                      refine take_yes 16 147 rfl rfl (by kernel_rfl) (by kernel_rfl) (by kernel_rfl) (fun _ _ _ h => h) (by rfl) (by assumption) (v := ?_) ?_ ?_
                      rotate_left
                      · intro w hSw; (try dsimp only at hSw); go_simp; (try with_reducible rfl)
                      try simp only [Act.put, List.setIfInBounds_toArray, List.set_cons_zero, List.set_cons_succ]
                      refine take_yes 17 148 rfl rfl (by kernel_rfl) (by kernel_rfl) (by kernel_rfl) (fun _ _ _ h => h) (by rfl) (by assumption) (v := .bool false) ?_ ?_
                      · intro w hSw; (try dsimp only at hSw); go_simp
                      try simp only [Act.put, List.setIfInBounds_toArray, List.set_cons_zero, List.set_cons_succ]
                      refine take_yes 18 149 rfl rfl (by kernel_rfl) (by kernel_rfl) (by kernel_rfl) (fun _ _ _ h => h) (by rfl) (by assumption) (v := ?_) ?_ ?_
                      rotate_left
                      · intro w hSw; (try dsimp only at hSw); go_simp; (try with_reducible rfl)
                      try simp only [Act.put, List.setIfInBounds_toArray, List.set_cons_zero, List.set_cons_succ]
                      refine take_yes 19 150 rfl rfl (by kernel_rfl) (by kernel_rfl) (by kernel_rfl) (fun _ _ _ h => h) (by rfl) (by assumption) (v := ?_) ?_ ?_
                      rotate_left
                      · intro w hSw; (try dsimp only at hSw); go_simp; (try with_reducible rfl)
                      try simp only [Act.put, List.setIfInBounds_toArray, List.set_cons_zero, List.set_cons_succ]
                      refine take_no 20 151 rfl rfl (by kernel_rfl) (by kernel_rfl) (by kernel_rfl) (fun _ _ _ h => h) (by rfl) (by assumption) ?_
                      try simp only [Act.put, List.setIfInBounds_toArray, List.set_cons_zero, List.set_cons_succ]
                      refine take_yes 21 152 rfl rfl (by kernel_rfl) (by kernel_rfl) (by kernel_rfl) (fun _ _ _ h => h) (by rfl) (by assumption) (v := ?_) ?_ ?_
                      rotate_left
                      · intro w hSw; (try dsimp only at hSw); go_simp; (try with_reducible rfl)
                      try simp only [Act.put, List.setIfInBounds_toArray, List.set_cons_zero, List.set_cons_succ]
                      refine take_yes 22 130 rfl rfl (by kernel_rfl) (by kernel_rfl) (by kernel_rfl) (fun _ _ _ h => h) (by rfl) (by assumption) (v := ?_) ?_ ?_
                      rotate_left
                      · intro w hSw; (try dsimp only at hSw); go_simp; (try with_reducible rfl)
                      try simp only [Act.put, List.setIfInBounds_toArray, List.set_cons_zero, List.set_cons_succ]
                      refine wpAnyH_done (by kernel_rfl) ?_ _
                      have HZ := Lib.hid (And.right (show _ ∧ _ from by assumption))
                      go_wp2_with fail
                      go_meet
                      exact ⟨by rw [HV.out], HZ.out⟩
                · have q2 : (c == 101) = false := by rw [beq_eq_false_iff_ne]; exact h2
                  as_aux_lemma =>
                    have HV := Lib.hid (show decide (d.st = 2 ∧ c = 101 ∧ e1 = true ∧ mn = true) = false from decide_eq_false (fun hh => h2 hh.2.1))
                    go_wp2_with fail
                    refine wp_region_held_drew (S := (fun W => (W.cell? ⟨g, 10, none⟩ = some (.int .i64 d.st) ∧ W.cell? ⟨g, 11, none⟩ = some (.int .i64 d.ss) ∧ W.cell? ⟨qd, 0, none⟩ = some (.int .i64 c) ∧ W.cell? ⟨qd, 1, none⟩ = some (.int .i64 ss) ∧ W.cell? ⟨q, 6, none⟩ = some (.int .u8 s1) ∧ W.cell? ⟨q, 7, none⟩ = some (.int .u8 s2) ∧ W.cell? ⟨q, 8, none⟩ = some (.int .u8 s3) ∧ W.cell? ⟨q, 9, none⟩ = some (.int .u8 s4) ∧ W.cell? ⟨q, 10, none⟩ = some (.int .u8 s5) ∧ W.cell? ⟨q, 11, none⟩ = some (.int .u8 s6) ∧ W.cell? ⟨g, 12, none⟩ = some (.int .u8 d.k.a) ∧ W.cell? ⟨g, 13, none⟩ = some (.int .u8 d.k.b) ∧ W.cell? ⟨g, 14, none⟩ = some (.int .u8 d.k.c) ∧ W.cell? ⟨g, 15, none⟩ = some (.int .u8 d.k.d) ∧ W.cell? ⟨g, 16, none⟩ = some (.int .u8 d.k.e) ∧ W.cell? ⟨g, 17, none⟩ = some (.int .u8 d.k.f)) ∧ Fr [] wA W)) (by kernel_rfl) ?_ (fun hHeld => ?_)
                    · (try dsimp only); exact HCX.out _ (Fr.refl [] wA).drew
                    refine take_yes 0 131 rfl rfl (by kernel_rfl) (by kernel_rfl) (by kernel_rfl) (fun _ _ _ h => h) (by rfl) (by assumption) (v := ?_) ?_ ?_
                    rotate_left
                    · intro w hSw; (try dsimp only at hSw); go_simp; (try with_reducible rfl)
                    try simp only [Act.put, List.setIfInBounds_toArray, List.set_cons_zero, List.set_cons_succ]
                    refine take_yes 1 132 rfl rfl (by kernel_rfl) (by kernel_rfl) (by kernel_rfl) (fun _ _ _ h => h) (by rfl) (by assumption) (v := ?_) ?_ ?_
                    rotate_left
                    · intro w hSw; (try dsimp only at hSw); go_simp; (try with_reducible rfl)
                    try simp only [Act.put, List.setIfInBounds_toArray, List.set_cons_zero, List.set_cons_succ]
                    refine take_yes 2 133 rfl rfl (by kernel_rfl) (by kernel_rfl) (by kernel_rfl) (fun _ _ _ h => h) (by rfl) (by assumption) (v := ?_) ?_ ?_
                    rotate_left
                    · intro w hSw; (try dsimp only at hSw); go_simp; (try with_reducible rfl)
                    try simp only [Act.put, List.setIfInBounds_toArray, List.set_cons_zero, List.set_cons_succ]
                    refine take_yes 3 134 rfl rfl (by kernel_rfl) (by kernel_rfl) (by kernel_rfl) (fun _ _ _ h => h) (by rfl) (by assumption) (v := ?_) ?_ ?_
                    rotate_left
                    · intro w hSw; (try dsimp only at hSw); go_simp; (try with_reducible rfl)
                    try simp only [Act.put, List.setIfInBounds_toArray, List.set_cons_zero, List.set_cons_succ]
                    refine take_yes 4 135 rfl rfl (by kernel_rfl) (by kernel_rfl) (by kernel_rfl) (fun _ _ _ h => h) (by rfl) (by assumption) (v := .bool true) ?_ ?_
                    · intro w hSw; (try dsimp only at hSw); go_simp
                    try simp only [Act.put, List.setIfInBounds_toArray, List.set_cons_zero, List.set_cons_succ]
                    refine take_yes 5 136 rfl rfl (by kernel_rfl) (by kernel_rfl) (by kernel_rfl) (fun _ _ _ h => h) (by rfl) (by assumption) (v := ?_) ?_ ?_
                    rotate_left
                    · intro w hSw; (try dsimp only at hSw); go_simp; (try with_reducible rfl)
                    try simp only [Act.put, List.setIfInBounds_toArray, List.set_cons_zero, List.set_cons_succ]
                    refine take_yes 6 137 rfl rfl (by kernel_rfl) (by kernel_rfl) (by kernel_rfl) (fun _ _ _ h => h) (by rfl) (by assumption) (v := ?_) ?_ ?_
                    rotate_left
                    · intro w hSw; (try dsimp only at hSw); go_simp; (try with_reducible rfl)
                    try simp only [Act.put, List.setIfInBounds_toArray, List.set_cons_zero, List.set_cons_succ]
                    refine take_yes 7 138 rfl rfl (by kernel_rfl) (by kernel_rfl) (by kernel_rfl) (fun _ _ _ h => h) (by rfl) (by assumption) (v := ?_) ?_ ?_
                    rotate_left
                    · intro w hSw; (try dsimp only at hSw); go_simp; (try with_reducible rfl)
                    try simp only [Act.put, List.setIfInBounds_toArray, List.set_cons_zero, List.set_cons_succ]
                    refine take_yes 8 139 rfl rfl (by kernel_rfl) (by kernel_rfl) (by kernel_rfl) (fun _ _ _ h => h) (by rfl) (by assumption) (v := .bool false) ?_ ?_
                    · intro w hSw; (try dsimp only at hSw); go_simp
                    try simp only [Act.put, List.setIfInBounds_toArray, List.set_cons_zero, List.set_cons_succ]
                    refine take_yes 9 140 rfl rfl (by kernel_rfl) (by kernel_rfl) (by kernel_rfl) (fun _ _ _ h => h) (by rfl) (by assumption) (v := ?_) ?_ ?_
                    rotate_left
                    · intro w hSw; (try dsimp only at hSw); go_simp; (try with_reducible rfl)
                    try simp only [Act.put, List.setIfInBounds_toArray, List.set_cons_zero, List.set_cons_succ]
                    refine take_yes 10 141 rfl rfl (by kernel_rfl) (by kernel_rfl) (by kernel_rfl) (fun _ _ _ h => h) (by rfl) (by assumption) (v := ?_) ?_ ?_
                    rotate_left
                    · intro w hSw; (try dsimp only at hSw); go_simp; (try with_reducible rfl)
                    try simp only [Act.put, List.setIfInBounds_toArray, List.set_cons_zero, List.set_cons_succ]
                    refine take_no 11 142 rfl rfl (by kernel_rfl) (by kernel_rfl) (by kernel_rfl) (fun _ _ _ h => h) (by rfl) (by assumption) ?_
                    try simp only [Act.put, List.setIfInBounds_toArray, List.set_cons_zero, List.set_cons_succ]
                    refine take_no 12 143 rfl rfl (by kernel_rfl) (by kernel_rfl) (by kernel_rfl) (fun _ _ _ h => h) (by rfl) (by assumption) ?_
                    try simp only [Act.put, List.setIfInBounds_toArray, List.set_cons_zero, List.set_cons_succ]
                    refine take_no 13 144 rfl rfl (by kernel_rfl) (by kernel_rfl) (by kernel_rfl) (fun _ _ _ h => h) (by rfl) (by assumption) ?_
                    try simp only [Act.put, List.setIfInBounds_toArray, List.set_cons_zero, List.set_cons_succ]
                    refine take_no 14 145 rfl rfl (by kernel_rfl) (by kernel_rfl) (by kernel_rfl) (fun _ _ _ h => h) (by rfl) (by assumption) ?_
                    try simp only [Act.put, List.setIfInBounds_toArray, List.set_cons_zero, List.set_cons_succ]
                    refine take_no 15 146 rfl rfl (by kernel_rfl) (by kernel_rfl) (by kernel_rfl) (fun _ _ _ h => h) (by rfl) (by assumption) ?_
                    try simp only [Act.put, List.setIfInBounds_toArray, List.set_cons_zero, List.set_cons_succ]
                    refine take_no 16 147 rfl rfl (by kernel_rfl) (by kernel_rfl) (by kernel_rfl) (fun _ _ _ h => h) (by rfl) (by assumption) ?_
                    try simp only [Act.put, List.setIfInBounds_toArray, List.set_cons_zero, List.set_cons_succ]
                    refine take_no 17 148 rfl rfl (by kernel_rfl) (by kernel_rfl) (by kernel_rfl) (fun _ _ _ h => h) (by rfl) (by assumption) ?_
                    try simp only [Act.put, List.setIfInBounds_toArray, List.set_cons_zero, List.set_cons_succ]
                    refine take_yes 18 149 rfl rfl (by kernel_rfl) (by kernel_rfl) (by kernel_rfl) (fun _ _ _ h => h) (by rfl) (by assumption) (v := ?_) ?_ ?_
                    rotate_left
                    · intro w hSw; (try dsimp only at hSw); go_simp; (try with_reducible rfl)
                    try simp only [Act.put, List.setIfInBounds_toArray, List.set_cons_zero, List.set_cons_succ]
                    refine take_yes 19 150 rfl rfl (by kernel_rfl) (by kernel_rfl) (by kernel_rfl) (fun _ _ _ h => h) (by rfl) (by assumption) (v := ?_) ?_ ?_
                    rotate_left
                    · intro w hSw; (try dsimp only at hSw); go_simp; (try with_reducible rfl)
                    try simp only [Act.put, List.setIfInBounds_toArray, List.set_cons_zero, List.set_cons_succ]
                    refine take_no 20 151 rfl rfl (by kernel_rfl) (by kernel_rfl) (by kernel_rfl) (fun _ _ _ h => h) (by rfl) (by assumption) ?_
                    try simp only [Act.put, List.setIfInBounds_toArray, List.set_cons_zero, List.set_cons_succ]
                    refine take_yes 21 152 rfl rfl (by kernel_rfl) (by kernel_rfl) (by kernel_rfl) (fun _ _ _ h => h) (by rfl) (by assumption) (v := ?_) ?_ ?_
                    rotate_left
                    · intro w hSw; (try dsimp only at hSw); go_simp; (try with_reducible rfl)
                    try simp only [Act.put, List.setIfInBounds_toArray, List.set_cons_zero, List.set_cons_succ]
                    refine take_yes 22 130 rfl rfl (by kernel_rfl) (by kernel_rfl) (by kernel_rfl) (fun _ _ _ h => h) (by rfl) (by assumption) (v := ?_) ?_ ?_
                    rotate_left
                    · intro w hSw; (try dsimp only at hSw); go_simp; (try with_reducible rfl)
                    try simp only [Act.put, List.setIfInBounds_toArray, List.set_cons_zero, List.set_cons_succ]
                    refine wpAnyH_done (by kernel_rfl) ?_ _
                    have HZ := Lib.hid (And.right (show _ ∧ _ from by assumption))
                    go_wp2_with fail
                    go_meet
                    exact ⟨by rw [HV.out], HZ.out⟩
              · have q1 : (d.st == 2) = false := by rw [beq_eq_false_iff_ne]; exact h1
                as_aux_lemma =>
                  have HV := Lib.hid (show decide (d.st = 2 ∧ c = 101 ∧ e1 = true ∧ mn = true) = false from decide_eq_false (fun hh => h1 hh.1))
                  go_wp2_with fail
                  refine wp_region_held_drew (S := (fun W => (W.cell? ⟨g, 10, none⟩ = some (.int .i64 d.st) ∧ W.cell? ⟨g, 11, none⟩ = some (.int .i64 d.ss) ∧ W.cell? ⟨qd, 0, none⟩ = some (.int .i64 c) ∧ W.cell? ⟨qd, 1, none⟩ = some (.int .i64 ss) ∧ W.cell? ⟨q, 6, none⟩ = some (.int .u8 s1) ∧ W.cell? ⟨q, 7, none⟩ = some (.int .u8 s2) ∧ W.cell? ⟨q, 8, none⟩ = some (.int .u8 s3) ∧ W.cell? ⟨q, 9, none⟩ = some (.int .u8 s4) ∧ W.cell? ⟨q, 10, none⟩ = some (.int .u8 s5) ∧ W.cell? ⟨q, 11, none⟩ = some (.int .u8 s6) ∧ W.cell? ⟨g, 12, none⟩ = some (.int .u8 d.k.a) ∧ W.cell? ⟨g, 13, none⟩ = some (.int .u8 d.k.b) ∧ W.cell? ⟨g, 14, none⟩ = some (.int .u8 d.k.c) ∧ W.cell? ⟨g, 15, none⟩ = some (.int .u8 d.k.d) ∧ W.cell? ⟨g, 16, none⟩ = some (.int .u8 d.k.e) ∧ W.cell? ⟨g, 17, none⟩ = some (.int .u8 d.k.f)) ∧ Fr [] wA W)) (by kernel_rfl) ?_ (fun hHeld => ?_)
                  · (try dsimp only); exact HCX.out _ (Fr.refl [] wA).drew
                  refine take_yes 0 131 rfl rfl (by kernel_rfl) (by kernel_rfl) (by kernel_rfl) (fun _ _ _ h => h) (by rfl) (by assumption) (v := ?_) ?_ ?_
                  rotate_left
                  · intro w hSw; (try dsimp only at hSw); go_simp; (try with_reducible rfl)
                  try simp only [Act.put, List.setIfInBounds_toArray, List.set_cons_zero, List.set_cons_succ]
                  refine take_yes 1 132 rfl rfl (by kernel_rfl) (by kernel_rfl) (by kernel_rfl) (fun _ _ _ h => h) (by rfl) (by assumption) (v := ?_) ?_ ?_
                  rotate_left
                  · intro w hSw; (try dsimp only at hSw); go_simp; (try with_reducible rfl)
                  try simp only [Act.put, List.setIfInBounds_toArray, List.set_cons_zero, List.set_cons_succ]
                  refine take_yes 2 133 rfl rfl (by kernel_rfl) (by kernel_rfl) (by kernel_rfl) (fun _ _ _ h => h) (by rfl) (by assumption) (v := ?_) ?_ ?_
                  rotate_left
                  · intro w hSw; (try dsimp only at hSw); go_simp; (try with_reducible rfl)
                  try simp only [Act.put, List.setIfInBounds_toArray, List.set_cons_zero, List.set_cons_succ]
                  refine take_yes 3 134 rfl rfl (by kernel_rfl) (by kernel_rfl) (by kernel_rfl) (fun _ _ _ h => h) (by rfl) (by assumption) (v := ?_) ?_ ?_
                  rotate_left
                  · intro w hSw; (try dsimp only at hSw); go_simp; (try with_reducible rfl)
                  try simp only [Act.put, List.setIfInBounds_toArray, List.set_cons_zero, List.set_cons_succ]
                  refine take_yes 4 135 rfl rfl (by kernel_rfl) (by kernel_rfl) (by kernel_rfl) (fun _ _ _ h => h) (by rfl) (by assumption) (v := .bool false) ?_ ?_
                  · intro w hSw; (try dsimp only at hSw); go_simp
                  try simp only [Act.put, List.setIfInBounds_toArray, List.set_cons_zero, List.set_cons_succ]
                  refine take_yes 5 136 rfl rfl (by kernel_rfl) (by kernel_rfl) (by kernel_rfl) (fun _ _ _ h => h) (by rfl) (by assumption) (v := ?_) ?_ ?_
                  rotate_left
                  · intro w hSw; (try dsimp only at hSw); go_simp; (try with_reducible rfl)
                  try simp only [Act.put, List.setIfInBounds_toArray, List.set_cons_zero, List.set_cons_succ]
                  refine take_no 6 137 rfl rfl (by kernel_rfl) (by kernel_rfl) (by kernel_rfl) (fun _ _ _ h => h) (by rfl) (by assumption) ?_
                  try simp only [Act.put, List.setIfInBounds_toArray, List.set_cons_zero, List.set_cons_succ]
                  refine take_no 7 138 rfl rfl (by kernel_rfl) (by kernel_rfl) (by kernel_rfl) (fun _ _ _ h => h) (by rfl) (by assumption) ?_
                  try simp only [Act.put, List.setIfInBounds_toArray, List.set_cons_zero, List.set_cons_succ]
                  refine take_no 8 139 rfl rfl (by kernel_rfl) (by kernel_rfl) (by kernel_rfl) (fun _ _ _ h => h) (by rfl) (by assumption) ?_
                  try simp only [Act.put, List.setIfInBounds_toArray, List.set_cons_zero, List.set_cons_succ]
                  refine take_yes 9 140 rfl rfl (by kernel_rfl) (by kernel_rfl) (by kernel_rfl) (fun _ _ _ h => h) (by rfl) (by assumption) (v := ?_) ?_ ?_
                  rotate_left
                  · intro w hSw; (try dsimp only at hSw); go_simp; (try with_reducible rfl)
                  try simp only [Act.put, List.setIfInBounds_toArray, List.set_cons_zero, List.set_cons_succ]
                  refine take_yes 10 141 rfl rfl (by kernel_rfl) (by kernel_rfl) (by kernel_rfl) (fun _ _ _ h => h) (by rfl) (by assumption) (v := ?_) ?_ ?_
                  rotate_left
                  · intro w hSw; (try dsimp only at hSw); go_simp; (try with_reducible rfl)
                  try simp only [Act.put, List.setIfInBounds_toArray, List.set_cons_zero, List.set_cons_succ]
                  refine take_no 11 142 rfl rfl (by kernel_rfl) (by kernel_rfl) (by kernel_rfl) (fun _ _ _ h => h) (by rfl) (by assumption) ?_
                  try simp only [Act.put, List.setIfInBounds_toArray, List.set_cons_zero, List.set_cons_succ]
                  refine take_no 12 143 rfl rfl (by kernel_rfl) (by kernel_rfl) (by kernel_rfl) (fun _ _ _ h => h) (by rfl) (by assumption) ?_
                  try simp only [Act.put, List.setIfInBounds_toArray, List.set_cons_zero, List.set_cons_succ]
                  refine take_no 13 144 rfl rfl (by kernel_rfl) (by kernel_rfl) (by kernel_rfl) (fun _ _ _ h => h) (by rfl) (by assumption) ?_
                  try simp only [Act.put, List.setIfInBounds_toArray, List.set_cons_zero, List.set_cons_succ]
                  refine take_no 14 145 rfl rfl (by kernel_rfl) (by kernel_rfl) (by kernel_rfl) (fun _ _ _ h => h) (by rfl) (by assumption) ?_
                  try simp only [Act.put, List.setIfInBounds_toArray, List.set_cons_zero, List.set_cons_succ]
                  refine take_no 15 146 rfl rfl (by kernel_rfl) (by kernel_rfl) (by kernel_rfl) (fun _ _ _ h => h) (by rfl) (by assumption) ?_
                  try simp only [Act.put, List.setIfInBounds_toArray, List.set_cons_zero, List.set_cons_succ]
                  refine take_no 16 147 rfl rfl (by kernel_rfl) (by kernel_rfl) (by kernel_rfl) (fun _ _ _ h => h) (by rfl) (by assumption) ?_
                  try simp only [Act.put, List.setIfInBounds_toArray, List.set_cons_zero, List.set_cons_succ]
                  refine take_no 17 148 rfl rfl (by kernel_rfl) (by kernel_rfl) (by kernel_rfl) (fun _ _ _ h => h) (by rfl) (by assumption) ?_
                  try simp only [Act.put, List.setIfInBounds_toArray, List.set_cons_zero, List.set_cons_succ]
                  refine take_yes 18 149 rfl rfl (by kernel_rfl) (by kernel_rfl) (by kernel_rfl) (fun _ _ _ h => h) (by rfl) (by assumption) (v := ?_) ?_ ?_
                  rotate_left
                  · intro w hSw; (try dsimp only at hSw); go_simp; (try with_reducible rfl)
                  try simp only [Act.put, List.setIfInBounds_toArray, List.set_cons_zero, List.set_cons_succ]
                  refine take_yes 19 150 rfl rfl (by kernel_rfl) (by kernel_rfl) (by kernel_rfl) (fun _ _ _ h => h) (by rfl) (by assumption) (v := ?_) ?_ ?_
                  rotate_left
                  · intro w hSw; (try dsimp only at hSw); go_simp; (try with_reducible rfl)
                  try simp only [Act.put, List.setIfInBounds_toArray, List.set_cons_zero, List.set_cons_succ]
                  refine take_no 20 151 rfl rfl (by kernel_rfl) (by kernel_rfl) (by kernel_rfl) (fun _ _ _ h => h) (by rfl) (by assumption) ?_
                  try simp only [Act.put, List.setIfInBounds_toArray, List.set_cons_zero, List.set_cons_succ]
                  refine take_yes 21 152 rfl rfl (by kernel_rfl) (by kernel_rfl) (by kernel_rfl) (fun _ _ _ h => h) (by rfl) (by assumption) (v := ?_) ?_ ?_
                  rotate_left
                  · intro w hSw; (try dsimp only at hSw); go_simp; (try with_reducible rfl)
                  try simp only [Act.put, List.setIfInBounds_toArray, List.set_cons_zero, List.set_cons_succ]
                  refine take_yes 22 130 rfl rfl (by kernel_rfl) (by kernel_rfl) (by kernel_rfl) (fun _ _ _ h => h) (by rfl) (by assumption) (v := ?_) ?_ ?_
                  rotate_left
                  · intro w hSw; (try dsimp only at hSw); go_simp; (try with_reducible rfl)
                  try simp only [Act.put, List.setIfInBounds_toArray, List.set_cons_zero, List.set_cons_succ]
                  refine wpAnyH_done (by kernel_rfl) ?_ _
                  have HZ := Lib.hid (And.right (show _ ∧ _ from by assumption))
                  go_wp2_with fail
                  go_meet
                  exact ⟨by rw [HV.out], HZ.out⟩
            case rest =>
              obtain ⟨rfl, hF1⟩ := hcut
              obtain ⟨v1, rfl⟩ : ∃ x, x = wc := ⟨_, rfl⟩
              have HV1 := Lib.hid hF1
              clear hF1
              have HCX1 : Hid (∀ W, Fr [] v1 W → (fun W => (W.cell? ⟨g, 10, none⟩ = some (.int .i64 d.st) ∧ W.cell? ⟨g, 11, none⟩ = some (.int .i64 d.ss) ∧ W.cell? ⟨qd, 0, none⟩ = some (.int .i64 c) ∧ W.cell? ⟨qd, 1, none⟩ = some (.int .i64 ss) ∧ W.cell? ⟨q, 6, none⟩ = some (.int .u8 s1) ∧ W.cell? ⟨q, 7, none⟩ = some (.int .u8 s2) ∧ W.cell? ⟨q, 8, none⟩ = some (.int .u8 s3) ∧ W.cell? ⟨q, 9, none⟩ = some (.int .u8 s4) ∧ W.cell? ⟨q, 10, none⟩ = some (.int .u8 s5) ∧ W.cell? ⟨q, 11, none⟩ = some (.int .u8 s6) ∧ W.cell? ⟨g, 12, none⟩ = some (.int .u8 d.k.a) ∧ W.cell? ⟨g, 13, none⟩ = some (.int .u8 d.k.b) ∧ W.cell? ⟨g, 14, none⟩ = some (.int .u8 d.k.c) ∧ W.cell? ⟨g, 15, none⟩ = some (.int .u8 d.k.d) ∧ W.cell? ⟨g, 16, none⟩ = some (.int .u8 d.k.e) ∧ W.cell? ⟨g, 17, none⟩ = some (.int .u8 d.k.f)) ∧ Fr [] v1 W) W) := Lib.hid fun W hW => ⟨(HCX.out W (HV1.out.trans hW)).1, hW⟩
              by_cases hB2 : d.st = 2 ∧ c = 101 ∧ e1 = true ∧ mn = true
              · rw [decide_eq_true hB2]
                as_aux_lemma =>
                  have HGT : Hid (dTake d (⟨k1, k2, k3, k4, k5, k6⟩, ⟨s1, s2, s3, s4, s5, s6⟩, ty, d0) = ({ d with st := if ss = 0 then 4 else 3, ss := ss }, [])) := Lib.hid (by rw [HPT.out]; unfold dGot; rw [if_neg hA, if_pos ⟨hB2.1, hB2.2.1, by rw [HE1.out]; exact hB2.2.2.1, by rw [HMN.out]; exact hB2.2.2.2⟩])
                  have hB1 := HBC.out _ HV1.out
                  have g10 := hB1.c 10 _ rfl
                  have g11 := hB1.c 11 _ rfl
                  have f10 := hB1.fz 10
                  have f11 := hB1.fz 11
                  have y1 : v1.cell? ⟨qd, 1, none⟩ = some (.int .i64 ss) := (HDC.out _ HV1.out).c 1 _ rfl
                  have hne : qd ≠ g := fun e => by subst e; exact (HDC.out _ HV1.out).neT hB1 (by decide) rfl
                  have hBB := ((hB1.set 10 (.int .i64 3)).set 11 (.int .i64 ss)).drew
                  have hFF := (((Fr.refl [g] v1).setCell (p := ⟨g, 10, none⟩) (by simp) (.int .i64 3)).setCell (p := ⟨g, 11, none⟩) (by simp) (.int .i64 ss)).drew
                  have hB2 : Blk (((v1.setCell ⟨g, 10, none⟩ (.int .i64 3)).setCell ⟨g, 11, none⟩ (.int .i64 ss)).drew) g (dhC { d with st := 3, ss := ss }) 254 := by
                    simpa [dhC] using hBB
                  have HB2 := Lib.hid hB2
                  have HD2 := Lib.hid (hFF.blk (HDC.out _ HV1.out) (by simpa using hne))
                  have HFg := Lib.hid (((HFC.out.trans HV1.out).mono (S' := [g]) (by simp)).trans hFF)
                  clear hB1 hBB hFF hB2 hne heq1 x10 z0 z1
                  go_wp2_with fail
                  go_region
                  obtain ⟨v2, hv2⟩ : ∃ V, ((v1.setCell ⟨g, 10, none⟩ (.int .i64 3)).setCell ⟨g, 11, none⟩ (.int .i64 ss)).drew = V := ⟨_, rfl⟩
                  have hsh : v1.drew = v1.drew := rfl
                  rw [hv2] at HB2 HD2 HFg
                  (try rw [hv2])
                  clear g10 g11 f10 f11 y1
                  have g10 := HB2.out.c 10 _ rfl
                  have f10 := HB2.out.fz 10
                  have y1 := HD2.out.c 1 _ rfl
                  by_cases hs0 : ss = 0
                  · have hs1 : (ss == 0) = true := by simpa using hs0
                    have hB3 : Blk (v2.setCell ⟨g, 10, none⟩ (.int .i64 4)) g (dhC { d with st := 4, ss := ss }) 254 := by
                      have := HB2.out.set 10 (.int .i64 4)
                      simpa [dhC] using this
                    have HX : Hid (DOut w g (dTake d (⟨k1, k2, k3, k4, k5, k6⟩, ⟨s1, s2, s3, s4, s5, s6⟩, ty, d0)).2 (dTake d (⟨k1, k2, k3, k4, k5, k6⟩, ⟨s1, s2, s3, s4, s5, s6⟩, ty, d0)).1 (.returned (.slice none 0 0)) (v2.setCell ⟨g, 10, none⟩ (.int .i64 4))) := Lib.hid (by rw [HGT.out, if_pos hs0]; exact ⟨OutP.none_ (HFg.out.setCell (by simp) _), hB3⟩)
                    clear hB3 hs0
                    go_wp2_with fail
                    go_ret
                    exact HX.out
                  · have hs1 : (ss == 0) = false := by rw [beq_eq_false_iff_ne]; exact hs0
                    have HX : Hid (DOut w g (dTake d (⟨k1, k2, k3, k4, k5, k6⟩, ⟨s1, s2, s3, s4, s5, s6⟩, ty, d0)).2 (dTake d (⟨k1, k2, k3, k4, k5, k6⟩, ⟨s1, s2, s3, s4, s5, s6⟩, ty, d0)).1 (.returned (.slice none 0 0)) v2) := Lib.hid (by rw [HGT.out, if_neg hs0]; exact ⟨OutP.none_ HFg.out, HB2.out⟩)
                    clear hs0
                    go_wp2_with fail
                    go_ret
                    exact HX.out
              · rw [decide_eq_false hB2]
                go_upto_region 21 with fail
                go_cut [167] (fun v wx => v = .bool (decide (d.st = 3 ∧ c = 167 ∧ e1 = true ∧ ss = d.ss)) ∧ Fr [] v1 wx)
                case first =>
                  by_cases h1 : d.st = 3
                  · have q1 : (d.st == 3) = true := by simpa using h1
                    by_cases h2 : c = 167
                    · have q2 : (c == 167) = true := by simpa using h2
                      cases e1 with
                      | true =>
                        by_cases h3 : ss = d.ss
                        · have q3 : (ss == d.ss) = true := by simpa using h3
                          as_aux_lemma =>
                            have HV := Lib.hid (show decide (d.st = 3 ∧ c = 167 ∧ true = true ∧ ss = d.ss) = true from decide_eq_true ⟨h1, h2, rfl, h3⟩)
                            go_wp2_with fail
                            refine wp_region_held_drew (S := (fun W => (W.cell? ⟨g, 10, none⟩ = some (.int .i64 d.st) ∧ W.cell? ⟨g, 11, none⟩ = some (.int .i64 d.ss) ∧ W.cell? ⟨qd, 0, none⟩ = some (.int .i64 c) ∧ W.cell? ⟨qd, 1, none⟩ = some (.int .i64 ss) ∧ W.cell? ⟨q, 6, none⟩ = some (.int .u8 s1) ∧ W.cell? ⟨q, 7, none⟩ = some (.int .u8 s2) ∧ W.cell? ⟨q, 8, none⟩ = some (.int .u8 s3) ∧ W.cell? ⟨q, 9, none⟩ = some (.int .u8 s4) ∧ W.cell? ⟨q, 10, none⟩ = some (.int .u8 s5) ∧ W.cell? ⟨q, 11, none⟩ = some (.int .u8 s6) ∧ W.cell? ⟨g, 12, none⟩ = some (.int .u8 d.k.a) ∧ W.cell? ⟨g, 13, none⟩ = some (.int .u8 d.k.b) ∧ W.cell? ⟨g, 14, none⟩ = some (.int .u8 d.k.c) ∧ W.cell? ⟨g, 15, none⟩ = some (.int .u8 d.k.d) ∧ W.cell? ⟨g, 16, none⟩ = some (.int .u8 d.k.e) ∧ W.cell? ⟨g, 17, none⟩ = some (.int .u8 d.k.f)) ∧ Fr [] v1 W)) (by kernel_rfl) ?_ (fun hHeld => ?_)
                            · (try dsimp only); exact HCX1.out _ (Fr.refl [] v1).drew
                            refine take_yes 0 168 rfl rfl (by kernel_rfl) (by kernel_rfl) (by kernel_rfl) (fun _ _ _ h => h) (by rfl) (by assumption) (v := ?_) ?_ ?_
                            rotate_left
                            · intro w hSw; (try dsimp only at hSw); go_simp; (try with_reducible rfl)
                            try simp only [Act.put, List.setIfInBounds_toArray, List.set_cons_zero, List.set_cons_succ]
                            refine take_yes 1 169 rfl rfl (by kernel_rfl) (by kernel_rfl) (by kernel_rfl) (fun _ _ _ h => h) (by rfl) (by assumption) (v := ?_) ?_ ?_
                            rotate_left
                            · intro w hSw; (try dsimp only at hSw); go_simp; (try with_reducible rfl)
                            try simp only [Act.put, List.setIfInBounds_toArray, List.set_cons_zero, List.set_cons_succ]
                            refine take_yes 2 170 rfl rfl (by kernel_rfl) (by kernel_rfl) (by kernel_rfl) (fun _ _ _ h => h) (by rfl) (by assumption) (v := ?_) ?_ ?_
                            rotate_left
                            · intro w hSw; (try dsimp only at hSw); go_simp; (try with_reducible rfl)
                            try simp only [Act.put, List.setIfInBounds_toArray, List.set_cons_zero, List.set_cons_succ]
                            refine take_yes 3 171 rfl rfl (by kernel_rfl) (by kernel_rfl) (by kernel_rfl) (fun _ _ _ h => h) (by rfl) (by assumption) (v := ?_) ?_ ?_
                            rotate_left
                            · intro w hSw; (try dsimp only at hSw); go_simp; (try with_reducible rfl)
                            try simp only [Act.put, List.setIfInBounds_toArray, List.set_cons_zero, List.set_cons_succ]
                            refine take_yes 4 172 rfl rfl (by kernel_rfl) (by kernel_rfl) (by kernel_rfl) (fun _ _ _ h => h) (by rfl) (by assumption) (v := .bool true) ?_ ?_
                            · intro w hSw; (try dsimp only at hSw); go_simp
                            try simp only [Act.put, List.setIfInBounds_toArray, List.set_cons_zero, List.set_cons_succ]
                            refine take_yes 5 173 rfl rfl (by kernel_rfl) (by kernel_rfl) (by kernel_rfl) (fun _ _ _ h => h) (by rfl) (by assumption) (v := ?_) ?_ ?_
                            rotate_left
                            · intro w hSw; (try dsimp only at hSw); go_simp; (try with_reducible rfl)
                            try simp only [Act.put, List.setIfInBounds_toArray, List.set_cons_zero, List.set_cons_succ]
                            refine take_yes 6 174 rfl rfl (by kernel_rfl) (by kernel_rfl) (by kernel_rfl) (fun _ _ _ h => h) (by rfl) (by assumption) (v := ?_) ?_ ?_
                            rotate_left
                            · intro w hSw; (try dsimp only at hSw); go_simp; (try with_reducible rfl)
                            try simp only [Act.put, List.setIfInBounds_toArray, List.set_cons_zero, List.set_cons_succ]
                            refine take_yes 7 175 rfl rfl (by kernel_rfl) (by kernel_rfl) (by kernel_rfl) (fun _ _ _ h => h) (by rfl) (by assumption) (v := ?_) ?_ ?_
                            rotate_left
                            · intro w hSw; (try dsimp only at hSw); go_simp; (try with_reducible rfl)
                            try simp only [Act.put, List.setIfInBounds_toArray, List.set_cons_zero, List.set_cons_succ]
                            refine take_yes 8 176 rfl rfl (by kernel_rfl) (by kernel_rfl) (by kernel_rfl) (fun _ _ _ h => h) (by rfl) (by assumption) (v := .bool true) ?_ ?_
                            · intro w hSw; (try dsimp only at hSw); go_simp
                            try simp only [Act.put, List.setIfInBounds_toArray, List.set_cons_zero, List.set_cons_succ]
                            refine take_yes 9 177 rfl rfl (by kernel_rfl) (by kernel_rfl) (by kernel_rfl) (fun _ _ _ h => h) (by rfl) (by assumption) (v := ?_) ?_ ?_
                            rotate_left
                            · intro w hSw; (try dsimp only at hSw); go_simp; (try with_reducible rfl)
                            try simp only [Act.put, List.setIfInBounds_toArray, List.set_cons_zero, List.set_cons_succ]
                            refine take_yes 10 178 rfl rfl (by kernel_rfl) (by kernel_rfl) (by kernel_rfl) (fun _ _ _ h => h) (by rfl) (by assumption) (v := ?_) ?_ ?_
                            rotate_left
                            · intro w hSw; (try dsimp only at hSw); go_simp; (try with_reducible rfl)
                            try simp only [Act.put, List.setIfInBounds_toArray, List.set_cons_zero, List.set_cons_succ]
                            refine take_yes 11 179 rfl rfl (by kernel_rfl) (by kernel_rfl) (by kernel_rfl) (fun _ _ _ h => h) (by rfl) (by assumption) (v := ?_) ?_ ?_
                            rotate_left
                            · intro w hSw; (try dsimp only at hSw); go_simp; (try with_reducible rfl)
                            try simp only [Act.put, List.setIfInBounds_toArray, List.set_cons_zero, List.set_cons_succ]
                            refine take_yes 12 180 rfl rfl (by kernel_rfl) (by kernel_rfl) (by kernel_rfl) (fun _ _ _ h => h) (by rfl) (by assumption) (v := ?_) ?_ ?_
                            rotate_left
                            · intro w hSw; (try dsimp only at hSw); go_simp; (try with_reducible rfl)
                            try simp only [Act.put, List.setIfInBounds_toArray, List.set_cons_zero, List.set_cons_succ]
                            refine take_yes 13 181 rfl rfl (by kernel_rfl) (by kernel_rfl) (by kernel_rfl) (fun _ _ _ h => h) (by rfl) (by assumption) (v := ?_) ?_ ?_
                            rotate_left
                            · intro w hSw; (try dsimp only at hSw); go_simp; (try with_reducible rfl)
                            try simp only [Act.put, List.setIfInBounds_toArray, List.set_cons_zero, List.set_cons_succ]
                            refine take_yes 14 182 rfl rfl (by kernel_rfl) (by kernel_rfl) (by kernel_rfl) (fun _ _ _ h => h) (by rfl) (by assumption) (v := ?_) ?_ ?_
                            rotate_left
                            · intro w hSw; (try dsimp only at hSw); go_simp; (try with_reducible rfl)
                            try simp only [Act.put, List.setIfInBounds_toArray, List.set_cons_zero, List.set_cons_succ]
                            refine take_yes 15 183 rfl rfl (by kernel_rfl) (by kernel_rfl) (by kernel_rfl) (fun _ _ _ h => h) (by rfl) (by assumption) (v := ?_) ?_ ?_
                            rotate_left
                            · intro w hSw; (try dsimp only at hSw); go_simp; (try with_reducible rfl)
                            try simp only [Act.put, List.setIfInBounds_toArray, List.set_cons_zero, List.set_cons_succ]
                            refine take_yes 16 184 rfl rfl (by kernel_rfl) (by kernel_rfl) (by kernel_rfl) (fun _ _ _ h => h) (by rfl) (by assumption) (v := ?_) ?_ ?_
                            rotate_left
                            · intro w hSw; (try dsimp only at hSw); go_simp; (try with_reducible rfl)
                            try simp only [Act.put, List.setIfInBounds_toArray, List.set_cons_zero, List.set_cons_succ]
                            refine take_yes 17 185 rfl rfl (by kernel_rfl) (by kernel_rfl) (by kernel_rfl) (fun _ _ _ h => h) (by rfl) (by assumption) (v := .bool true) ?_ ?_
                            · intro w hSw; (try dsimp only at hSw); go_simp
                            try simp only [Act.put, List.setIfInBounds_toArray, List.set_cons_zero, List.set_cons_succ]
                            refine take_yes 18 186 rfl rfl (by kernel_rfl) (by kernel_rfl) (by kernel_rfl) (fun _ _ _ h => h) (by rfl) (by assumption) (v := ?_) ?_ ?_
                            rotate_left
                            · intro w hSw; (try dsimp only at hSw); go_simp; (try with_reducible rfl)
                            try simp only [Act.put, List.setIfInBounds_toArray, List.set_cons_zero, List.set_cons_succ]
                            refine take_yes 19 187 rfl rfl (by kernel_rfl) (by kernel_rfl) (by kernel_rfl) (fun _ _ _ h => h) (by rfl) (by assumption) (v := ?_) ?_ ?_
                            rotate_left
                            · intro w hSw; (try dsimp only at hSw); go_simp; (try with_reducible rfl)
                            try simp only [Act.put, List.setIfInBounds_toArray, List.set_cons_zero, List.set_cons_succ]
                            refine take_yes 20 188 rfl rfl (by kernel_rfl) (by kernel_rfl) (by kernel_rfl) (fun _ _ _ h => h) (by rfl) (by assumption) (v := ?_) ?_ ?_
                            rotate_left
                            · intro w hSw; (try dsimp only at hSw); go_simp; (try with_reducible rfl)
                            try simp only [Act.put, List.setIfInBounds_toArray, List.set_cons_zero, List.set_cons_succ]
                            refine take_yes 21 189 rfl rfl (by kernel_rfl) (by kernel_rfl) (by kernel_rfl) (fun _ _ _ h => h) (by rfl) (by assumption) (v := ?_) ?_ ?_
                            rotate_left
                            · intro w hSw; (try dsimp only at hSw); go_simp; (try with_reducible rfl)
                            try simp only [Act.put, List.setIfInBounds_toArray, List.set_cons_zero, List.set_cons_succ]
                            refine take_yes 22 190 rfl rfl (by kernel_rfl) (by kernel_rfl) (by kernel_rfl) (fun _ _ _ h => h) (by rfl) (by assumption) (v := ?_) ?_ ?_
                            rotate_left
                            · intro w hSw; (try dsimp only at hSw); go_simp; (try with_reducible rfl)
                            try simp only [Act.put, List.setIfInBounds_toArray, List.set_cons_zero, List.set_cons_succ]
                            refine take_yes 23 191 rfl rfl (by kernel_rfl) (by kernel_rfl) (by kernel_rfl) (fun _ _ _ h => h) (by rfl) (by assumption) (v := ?_) ?_ ?_
                            rotate_left
                            · intro w hSw; (try dsimp only at hSw); go_simp; (try with_reducible rfl)
                            try simp only [Act.put, List.setIfInBounds_toArray, List.set_cons_zero, List.set_cons_succ]
                            refine take_yes 24 192 rfl rfl (by kernel_rfl) (by kernel_rfl) (by kernel_rfl) (fun _ _ _ h => h) (by rfl) (by assumption) (v := ?_) ?_ ?_
                            rotate_left
                            · intro w hSw; (try dsimp only at hSw); go_simp; (try with_reducible rfl)
                            try simp only [Act.put, List.setIfInBounds_toArray, List.set_cons_zero, List.set_cons_succ]
                            refine take_yes 25 193 rfl rfl (by kernel_rfl) (by kernel_rfl) (by kernel_rfl) (fun _ _ _ h => h) (by rfl) (by assumption) (v := ?_) ?_ ?_
                            rotate_left
                            · intro w hSw; (try dsimp only at hSw); go_simp; (try with_reducible rfl)
                            try simp only [Act.put, List.setIfInBounds_toArray, List.set_cons_zero, List.set_cons_succ]
                            refine take_yes 26 194 rfl rfl (by kernel_rfl) (by kernel_rfl) (by kernel_rfl) (fun _ _ _ h => h) (by rfl) (by assumption) (v := .bool true) ?_ ?_
                            · intro w hSw; (try dsimp only at hSw); go_simp
                            try simp only [Act.put, List.setIfInBounds_toArray, List.set_cons_zero, List.set_cons_succ]
                            refine take_yes 27 195 rfl rfl (by kernel_rfl) (by kernel_rfl) (by kernel_rfl) (fun _ _ _ h => h) (by rfl) (by assumption) (v := ?_) ?_ ?_
                            rotate_left
                            · intro w hSw; (try dsimp only at hSw); go_simp; (try with_reducible rfl)
                            try simp only [Act.put, List.setIfInBounds_toArray, List.set_cons_zero, List.set_cons_succ]
                            refine take_yes 28 167 rfl rfl (by kernel_rfl) (by kernel_rfl) (by kernel_rfl) (fun _ _ _ h => h) (by rfl) (by assumption) (v := ?_) ?_ ?_
                            rotate_left
                            · intro w hSw; (try dsimp only at hSw); go_simp; (try with_reducible rfl)
                            try simp only [Act.put, List.setIfInBounds_toArray, List.set_cons_zero, List.set_cons_succ]
                            refine wpAnyH_done (by kernel_rfl) ?_ _
                            have HZ := Lib.hid (And.right (show _ ∧ _ from by assumption))
                            go_wp2_with fail
                            go_meet
                            exact ⟨by rw [HV.out], HZ.out⟩
                        · have q3 : (ss == d.ss) = false := by rw [beq_eq_false_iff_ne]; exact h3
                          as_aux_lemma =>
                            have HV := Lib.hid (show decide (d.st = 3 ∧ c = 167 ∧ true = true ∧ ss = d.ss) = false from decide_eq_false (fun hh => h3 hh.2.2.2))
                            go_wp2_with fail
                            refine wp_region_held_drew (S := (fun W => (W.cell? ⟨g, 10, none⟩ = some (.int .i64 d.st) ∧ W.cell? ⟨g, 11, none⟩ = some (.int .i64 d.ss) ∧ W.cell? ⟨qd, 0, none⟩ = some (.int .i64 c) ∧ W.cell? ⟨qd, 1, none⟩ = some (.int .i64 ss) ∧ W.cell? ⟨q, 6, none⟩ = some (.int .u8 s1) ∧ W.cell? ⟨q, 7, none⟩ = some (.int .u8 s2) ∧ W.cell? ⟨q, 8, none⟩ = some (.int .u8 s3) ∧ W.cell? ⟨q, 9, none⟩ = some (.int .u8 s4) ∧ W.cell? ⟨q, 10, none⟩ = some (.int .u8 s5) ∧ W.cell? ⟨q, 11, none⟩ = some (.int .u8 s6) ∧ W.cell? ⟨g, 12, none⟩ = some (.int .u8 d.k.a) ∧ W.cell? ⟨g, 13, none⟩ = some (.int .u8 d.k.b) ∧ W.cell? ⟨g, 14, none⟩ = some (.int .u8 d.k.c) ∧ W.cell? ⟨g, 15, none⟩ = some (.int .u8 d.k.d) ∧ W.cell? ⟨g, 16, none⟩ = some (.int .u8 d.k.e) ∧ W.cell? ⟨g, 17, none⟩ = some (.int .u8 d.k.f)) ∧ Fr [] v1 W)) (by kernel_rfl) ?_ (fun hHeld => ?_)
                            · (try dsimp only); exact HCX1.out _ (Fr.refl [] v1).drew
                            refine take_yes 0 168 rfl rfl (by kernel_rfl) (by kernel_rfl) (by kernel_rfl) (fun _ _ _ h => h) (by rfl) (by assumption) (v := ?_) ?_ ?_
                            rotate_left
                            · intro w hSw; (try dsimp only at hSw); go_simp; (try with_reducible rfl)
                            try simp only [Act.put, List.setIfInBounds_toArray, List.set_cons_zero, List.set_cons_succ]
                            refine take_yes 1 169 rfl rfl (by kernel_rfl) (by kernel_rfl) (by kernel_rfl) (fun _ _ _ h => h) (by rfl) (by assumption) (v := ?_) ?_ ?_
                            rotate_left
                            · intro w hSw; (try dsimp only at hSw); go_simp; (try with_reducible rfl)
                            try simp only [Act.put, List.setIfInBounds_toArray, List.set_cons_zero, List.set_cons_succ]
                            refine take_yes 2 170 rfl rfl (by kernel_rfl) (by kernel_rfl) (by kernel_rfl) (fun _ _ _ h => h) (by rfl) (by assumption) (v := ?_) ?_ ?_
                            rotate_left
                            · intro w hSw; (try dsimp only at hSw); go_simp; (try with_reducible rfl)
                            try simp only [Act.put, List.setIfInBounds_toArray, List.set_cons_zero, List.set_cons_succ]
                            refine take_yes 3 171 rfl rfl (by kernel_rfl) (by kernel_rfl) (by kernel_rfl) (fun _ _ _ h => h) (by rfl) (by assumption) (v := ?_) ?_ ?_
                            rotate_left
                            · intro w hSw; (try dsimp only at hSw); go_simp; (try with_reducible rfl)
                            try simp only [Act.put, List.setIfInBounds_toArray, List.set_cons_zero, List.set_cons_succ]
                            refine take_yes 4 172 rfl rfl (by kernel_rfl) (by kernel_rfl) (by kernel_rfl) (fun _ _ _ h => h) (by rfl) (by assumption) (v := .bool true) ?_ ?_
                            · intro w hSw; (try dsimp only at hSw); go_simp
                            try simp only [Act.put, List.setIfInBounds_toArray, List.set_cons_zero, List.set_cons_succ]
                            refine take_yes 5 173 rfl rfl (by kernel_rfl) (by kernel_rfl) (by kernel_rfl) (fun _ _ _ h => h) (by rfl) (by assumption) (v := ?_) ?_ ?_
                            rotate_left
                            · intro w hSw; (try dsimp only at hSw); go_simp; (try with_reducible rfl)
                            try simp only [Act.put, List.setIfInBounds_toArray, List.set_cons_zero, List.set_cons_succ]
                            refine take_yes 6 174 rfl rfl (by kernel_rfl) (by kernel_rfl) (by kernel_rfl) (fun _ _ _ h => h) (by rfl) (by assumption) (v := ?_) ?_ ?_
                            rotate_left
                            · intro w hSw; (try dsimp only at hSw); go_simp; (try with_reducible rfl)
                            try simp only [Act.put, List.setIfInBounds_toArray, List.set_cons_zero, List.set_cons_succ]
                            refine take_yes 7 175 rfl rfl (by kernel_rfl) (by kernel_rfl) (by kernel_rfl) (fun _ _ _ h => h) (by rfl) (by assumption) (v := ?_) ?_ ?_
                            rotate_left
                            · intro w hSw; (try dsimp only at hSw); go_simp; (try with_reducible rfl)
                            try simp only [Act.put, List.setIfInBounds_toArray, List.set_cons_zero, List.set_cons_succ]
                            refine take_yes 8 176 rfl rfl (by kernel_rfl) (by kernel_rfl) (by kernel_rfl) (fun _ _ _ h => h) (by rfl) (by assumption) (v := .bool true) ?_ ?_
                            · intro w hSw; (try dsimp only at hSw); go_simp
                            try simp only [Act.put, List.setIfInBounds_toArray, List.set_cons_zero, List.set_cons_succ]
                            refine take_yes 9 177 rfl rfl (by kernel_rfl) (by kernel_rfl) (by kernel_rfl) (fun _ _ _ h => h) (by rfl) (by assumption) (v := ?_) ?_ ?_
                            rotate_left
                            · intro w hSw; (try dsimp only at hSw); go_simp; (try with_reducible rfl)
                            try simp only [Act.put, List.setIfInBounds_toArray, List.set_cons_zero, List.set_cons_succ]
                            refine take_yes 10 178 rfl rfl (by kernel_rfl) (by kernel_rfl) (by kernel_rfl) (fun _ _ _ h => h) (by rfl) (by assumption) (v := ?_) ?_ ?_
                            rotate_left
                            · intro w hSw; (try dsimp only at hSw); go_simp; (try with_reducible rfl)
                            try simp only [Act.put, List.setIfInBounds_toArray, List.set_cons_zero, List.set_cons_succ]
                            refine take_yes 11 179 rfl rfl (by kernel_rfl) (by kernel_rfl) (by kernel_rfl) (fun _ _ _ h => h) (by rfl) (by assumption) (v := ?_) ?_ ?_
                            rotate_left
                            · intro w hSw; (try dsimp only at hSw); go_simp; (try with_reducible rfl)
                            try simp only [Act.put, List.setIfInBounds_toArray, List.set_cons_zero, List.set_cons_succ]
                            refine take_yes 12 180 rfl rfl (by kernel_rfl) (by kernel_rfl) (by kernel_rfl) (fun _ _ _ h => h) (by rfl) (by assumption) (v := ?_) ?_ ?_
                            rotate_left
                            · intro w hSw; (try dsimp only at hSw); go_simp; (try with_reducible rfl)
                            try simp only [Act.put, List.setIfInBounds_toArray, List.set_cons_zero, List.set_cons_succ]
                            refine take_yes 13 181 rfl rfl (by kernel_rfl) (by kernel_rfl) (by kernel_rfl) (fun _ _ _ h => h) (by rfl) (by assumption) (v := ?_) ?_ ?_
                            rotate_left
                            · intro w hSw; (try dsimp only at hSw); go_simp; (try with_reducible rfl)
                            try simp only [Act.put, List.setIfInBounds_toArray, List.set_cons_zero, List.set_cons_succ]
                            refine take_yes 14 182 rfl rfl (by kernel_rfl) (by kernel_rfl) (by kernel_rfl) (fun _ _ _ h => h) (by rfl) (by assumption) (v := ?_) ?_ ?_
                            rotate_left
                            · intro w hSw; (try dsimp only at hSw); go_simp; (try with_reducible rfl)
                            try simp only [Act.put, List.setIfInBounds_toArray, List.set_cons_zero, List.set_cons_succ]
                            refine take_yes 15 183 rfl rfl (by kernel_rfl) (by kernel_rfl) (by kernel_rfl) (fun _ _ _ h => h) (by rfl) (by assumption) (v := ?_) ?_ ?_
                            rotate_left
                            · intro w hSw; (try dsimp only at hSw); go_simp; (try with_reducible rfl)
                            try simp only [Act.put, List.setIfInBounds_toArray, List.set_cons_zero, List.set_cons_succ]
                            refine take_yes 16 184 rfl rfl (by kernel_rfl) (by kernel_rfl) (by kernel_rfl) (fun _ _ _ h => h) (by rfl) (by assumption) (v := ?_) ?_ ?_
                            rotate_left
                            · intro w hSw; (try dsimp only at hSw); go_simp; (try with_reducible rfl)
                            try simp only [Act.put, List.setIfInBounds_toArray, List.set_cons_zero, List.set_cons_succ]
                            refine take_yes 17 185 rfl rfl (by kernel_rfl) (by kernel_rfl) (by kernel_rfl) (fun _ _ _ h => h) (by rfl) (by assumption) (v := .bool true) ?_ ?_
                            · intro w hSw; (try dsimp only at hSw); go_simp
                            try simp only [Act.put, List.setIfInBounds_toArray, List.set_cons_zero, List.set_cons_succ]
                            refine take_yes 18 186 rfl rfl (by kernel_rfl) (by kernel_rfl) (by kernel_rfl) (fun _ _ _ h => h) (by rfl) (by assumption) (v := ?_) ?_ ?_
                            rotate_left
                            · intro w hSw; (try dsimp only at hSw); go_simp; (try with_reducible rfl)
                            try simp only [Act.put, List.setIfInBounds_toArray, List.set_cons_zero, List.set_cons_succ]
                            refine take_yes 19 187 rfl rfl (by kernel_rfl) (by kernel_rfl) (by kernel_rfl) (fun _ _ _ h => h) (by rfl) (by assumption) (v := ?_) ?_ ?_
                            rotate_left
                            · intro w hSw; (try dsimp only at hSw); go_simp; (try with_reducible rfl)
                            try simp only [Act.put, List.setIfInBounds_toArray, List.set_cons_zero, List.set_cons_succ]
                            refine take_yes 20 188 rfl rfl (by kernel_rfl) (by kernel_rfl) (by kernel_rfl) (fun _ _ _ h => h) (by rfl) (by assumption) (v := ?_) ?_ ?_
                            rotate_left
                            · intro w hSw; (try dsimp only at hSw); go_simp; (try with_reducible rfl)
                            try simp only [Act.put, List.setIfInBounds_toArray, List.set_cons_zero, List.set_cons_succ]
                            refine take_yes 21 189 rfl rfl (by kernel_rfl) (by kernel_rfl) (by kernel_rfl) (fun _ _ _ h => h) (by rfl) (by assumption) (v := ?_) ?_ ?_
                            rotate_left
                            · intro w hSw; (try dsimp only at hSw); go_simp; (try with_reducible rfl)
                            try simp only [Act.put, List.setIfInBounds_toArray, List.set_cons_zero, List.set_cons_succ]
                            refine take_yes 22 190 rfl rfl (by kernel_rfl) (by kernel_rfl) (by kernel_rfl) (fun _ _ _ h => h) (by rfl) (by assumption) (v := ?_) ?_ ?_
                            rotate_left
                            · intro w hSw; (try dsimp only at hSw); go_simp; (try with_reducible rfl)
                            try simp only [Act.put, List.setIfInBounds_toArray, List.set_cons_zero, List.set_cons_succ]
                            refine take_yes 23 191 rfl rfl (by kernel_rfl) (by kernel_rfl) (by kernel_rfl) (fun _ _ _ h => h) (by rfl) (by assumption) (v := ?_) ?_ ?_
                            rotate_left
                            · intro w hSw; (try dsimp only at hSw); go_simp; (try with_reducible rfl)
                            try simp only [Act.put, List.setIfInBounds_toArray, List.set_cons_zero, List.set_cons_succ]
                            refine take_yes 24 192 rfl rfl (by kernel_rfl) (by kernel_rfl) (by kernel_rfl) (fun _ _ _ h => h) (by rfl) (by assumption) (v := ?_) ?_ ?_
                            rotate_left
                            · intro w hSw; (try dsimp only at hSw); go_simp; (try with_reducible rfl)
                            try simp only [Act.put, List.setIfInBounds_toArray, List.set_cons_zero, List.set_cons_succ]
                            refine take_yes 25 193 rfl rfl (by kernel_rfl) (by kernel_rfl) (by kernel_rfl) (fun _ _ _ h => h) (by rfl) (by assumption) (v := ?_) ?_ ?_
                            rotate_left
                            · intro w hSw; (try dsimp only at hSw); go_simp; (try with_reducible rfl)
                            try simp only [Act.put, List.setIfInBounds_toArray, List.set_cons_zero, List.set_cons_succ]
                            refine take_yes 26 194 rfl rfl (by kernel_rfl) (by kernel_rfl) (by kernel_rfl) (fun _ _ _ h => h) (by rfl) (by assumption) (v := .bool false) ?_ ?_
                            · intro w hSw; (try dsimp only at hSw); go_simp
                            try simp only [Act.put, List.setIfInBounds_toArray, List.set_cons_zero, List.set_cons_succ]
                            refine take_yes 27 195 rfl rfl (by kernel_rfl) (by kernel_rfl) (by kernel_rfl) (fun _ _ _ h => h) (by rfl) (by assumption) (v := ?_) ?_ ?_
                            rotate_left
                            · intro w hSw; (try dsimp only at hSw); go_simp; (try with_reducible rfl)
                            try simp only [Act.put, List.setIfInBounds_toArray, List.set_cons_zero, List.set_cons_succ]
                            refine take_yes 28 167 rfl rfl (by kernel_rfl) (by kernel_rfl) (by kernel_rfl) (fun _ _ _ h => h) (by rfl) (by assumption) (v := ?_) ?_ ?_
                            rotate_left
                            · intro w hSw; (try dsimp only at hSw); go_simp; (try with_reducible rfl)
                            try simp only [Act.put, List.setIfInBounds_toArray, List.set_cons_zero, List.set_cons_succ]
                            refine wpAnyH_done (by kernel_rfl) ?_ _
                            have HZ := Lib.hid (And.right (show _ ∧ _ from by assumption))
                            go_wp2_with fail
                            go_meet
                            exact ⟨by rw [HV.out], HZ.out⟩
                      | false =>
                        as_aux_lemma =>
                          have HV := Lib.hid (show decide (d.st = 3 ∧ c = 167 ∧ false = true ∧ ss = d.ss) = false from decide_eq_false (fun hh => absurd hh.2.2.1 (by decide)))
                          go_wp2_with fail
                          refine wp_region_held_drew (S := (fun W => (W.cell? ⟨g, 10, none⟩ = some (.int .i64 d.st) ∧ W.cell? ⟨g, 11, none⟩ = some (.int .i64 d.ss) ∧ W.cell? ⟨qd, 0, none⟩ = some (.int .i64 c) ∧ W.cell? ⟨qd, 1, none⟩ = some (.int .i64 ss) ∧ W.cell? ⟨q, 6, none⟩ = some (.int .u8 s1) ∧ W.cell? ⟨q, 7, none⟩ = some (.int .u8 s2) ∧ W.cell? ⟨q, 8, none⟩ = some (.int .u8 s3) ∧ W.cell? ⟨q, 9, none⟩ = some (.int .u8 s4) ∧ W.cell? ⟨q, 10, none⟩ = some (.int .u8 s5) ∧ W.cell? ⟨q, 11, none⟩ = some (.int .u8 s6) ∧ W.cell? ⟨g, 12, none⟩ = some (.int .u8 d.k.a) ∧ W.cell? ⟨g, 13, none⟩ = some (.int .u8 d.k.b) ∧ W.cell? ⟨g, 14, none⟩ = some (.int .u8 d.k.c) ∧ W.cell? ⟨g, 15, none⟩ = some (.int .u8 d.k.d) ∧ W.cell? ⟨g, 16, none⟩ = some (.int .u8 d.k.e) ∧ W.cell? ⟨g, 17, none⟩ = some (.int .u8 d.k.f)) ∧ Fr [] v1 W)) (by kernel_rfl) ?_ (fun hHeld => ?_)
                          · (try dsimp only); exact HCX1.out _ (Fr.refl [] v1).drew
                          refine take_yes 0 168 rfl rfl (by kernel_rfl) (by kernel_rfl) (by kernel_rfl) (fun _ _ _ h => h) (by rfl) (by assumption) (v := ?_) ?_ ?_
                          rotate_left
                          · intro w hSw; (try dsimp only at hSw); go_simp; (try with_reducible rfl)
                          try simp only [Act.put, List.setIfInBounds_toArray, List.set_cons_zero, List.set_cons_succ]
                          refine take_yes 1 169 rfl rfl (by kernel_rfl) (by kernel_rfl) (by kernel_rfl) (fun _ _ _ h => h) (by rfl) (by assumption) (v := ?_) ?_ ?_
                          rotate_left
                          · intro w hSw; (try dsimp only at hSw); go_simp; (try with_reducible rfl)
                          try simp only [Act.put, List.setIfInBounds_toArray, List.set_cons_zero, List.set_cons_succ]
                          refine take_yes 2 170 rfl rfl (by kernel_rfl) (by kernel_rfl) (by kernel_rfl) (fun _ _ _ h => h) (by rfl) (by assumption) (v := ?_) ?_ ?_
                          rotate_left
                          · intro w hSw; (try dsimp only at hSw); go_simp; (try with_reducible rfl)
                          try simp only [Act.put, List.setIfInBounds_toArray, List.set_cons_zero, List.set_cons_succ]
                          refine take_yes 3 171 rfl rfl (by kernel_rfl) (by kernel_rfl) (by kernel_rfl) (fun _ _ _ h => h) (by rfl) (by assumption) (v := ?_) ?_ ?_
                          rotate_left
                          · intro w hSw; (try dsimp only at hSw); go_simp; (try with_reducible rfl)
                          try simp only [Act.put, List.setIfInBounds_toArray, List.set_cons_zero, List.set_cons_succ]
                          refine take_yes 4 172 rfl rfl (by kernel_rfl) (by kernel_rfl) (by kernel_rfl) (fun _ _ _ h => h) (by rfl) (by assumption) (v := .bool true) ?_ ?_
                          · intro w hSw; (try dsimp only at hSw); go_simp
                          try simp only [Act.put, List.setIfInBounds_toArray, List.set_cons_zero, List.set_cons_succ]
                          refine take_yes 5 173 rfl rfl (by kernel_rfl) (by kernel_rfl) (by kernel_rfl) (fun _ _ _ h => h) (by rfl) (by assumption) (v := ?_) ?_ ?_
                          rotate_left
                          · intro w hSw; (try dsimp only at hSw); go_simp; (try with_reducible rfl)
                          try simp only [Act.put, List.setIfInBounds_toArray, List.set_cons_zero, List.set_cons_succ]
                          refine take_yes 6 174 rfl rfl (by kernel_rfl) (by kernel_rfl) (by kernel_rfl) (fun _ _ _ h => h) (by rfl) (by assumption) (v := ?_) ?_ ?_
                          rotate_left
                          · intro w hSw; (try dsimp only at hSw); go_simp; (try with_reducible rfl)
                          try simp only [Act.put, List.setIfInBounds_toArray, List.set_cons_zero, List.set_cons_succ]
                          refine take_yes 7 175 rfl rfl (by kernel_rfl) (by kernel_rfl) (by kernel_rfl) (fun _ _ _ h => h) (by rfl) (by assumption) (v := ?_) ?_ ?_
                          rotate_left
                          · intro w hSw; (try dsimp only at hSw); go_simp; (try with_reducible rfl)
                          try simp only [Act.put, List.setIfInBounds_toArray, List.set_cons_zero, List.set_cons_succ]
                          refine take_yes 8 176 rfl rfl (by kernel_rfl) (by kernel_rfl) (by kernel_rfl) (fun _ _ _ h => h) (by rfl) (by assumption) (v := .bool true) ?_ ?_
                          · intro w hSw; (try dsimp only at hSw); go_simp
                          try simp only [Act.put, List.setIfInBounds_toArray, List.set_cons_zero, List.set_cons_succ]
                          refine take_yes 9 177 rfl rfl (by kernel_rfl) (by kernel_rfl) (by kernel_rfl) (fun _ _ _ h => h) (by rfl) (by assumption) (v := ?_) ?_ ?_
                          rotate_left
                          · intro w hSw; (try dsimp only at hSw); go_simp; (try with_reducible rfl)
                          try simp only [Act.put, List.setIfInBounds_toArray, List.set_cons_zero, List.set_cons_succ]
                          refine take_yes 10 178 rfl rfl (by kernel_rfl) (by kernel_rfl) (by kernel_rfl) (fun _ _ _ h => h) (by rfl) (by assumption) (v := ?_) ?_ ?_
                          rotate_left
                          · intro w hSw; (try dsimp only at hSw); go_simp; (try with_reducible rfl)
                          try simp only [Act.put, List.setIfInBounds_toArray, List.set_cons_zero, List.set_cons_succ]
                          refine take_yes 11 179 rfl rfl (by kernel_rfl) (by kernel_rfl) (by kernel_rfl) (fun _ _ _ h => h) (by rfl) (by assumption) (v := ?_) ?_ ?_
                          rotate_left
                          · intro w hSw; (try dsimp only at hSw); go_simp; (try with_reducible rfl)
                          try simp only [Act.put, List.setIfInBounds_toArray, List.set_cons_zero, List.set_cons_succ]
                          refine take_yes 12 180 rfl rfl (by kernel_rfl) (by kernel_rfl) (by kernel_rfl) (fun _ _ _ h => h) (by rfl) (by assumption) (v := ?_) ?_ ?_
                          rotate_left
                          · intro w hSw; (try dsimp only at hSw); go_simp; (try with_reducible rfl)
                          try simp only [Act.put, List.setIfInBounds_toArray, List.set_cons_zero, List.set_cons_succ]
                          refine take_yes 13 181 rfl rfl (by kernel_rfl) (by kernel_rfl) (by kernel_rfl) (fun _ _ _ h => h) (by rfl) (by assumption) (v := ?_) ?_ ?_
                          rotate_left
                          · intro w hSw; (try dsimp only at hSw); go_simp; (try with_reducible rfl)
                          try simp only [Act.put, List.setIfInBounds_toArray, List.set_cons_zero, List.set_cons_succ]
                          refine take_yes 14 182 rfl rfl (by kernel_rfl) (by kernel_rfl) (by kernel_rfl) (fun _ _ _ h => h) (by rfl) (by assumption) (v := ?_) ?_ ?_
                          rotate_left
                          · intro w hSw; (try dsimp only at hSw); go_simp; (try with_reducible rfl)
                          try simp only [Act.put, List.setIfInBounds_toArray, List.set_cons_zero, List.set_cons_succ]
                          refine take_yes 15 183 rfl rfl (by kernel_rfl) (by kernel_rfl) (by kernel_rfl) (fun _ _ _ h => h) (by rfl) (by assumption) (v := ?_) ?_ ?_
                          rotate_left
                          · intro w hSw; (try dsimp only at hSw); go_simp; (try with_reducible rfl)
                          try simp only [Act.put, List.setIfInBounds_toArray, List.set_cons_zero, List.set_cons_succ]
                          refine take_yes 16 184 rfl rfl (by kernel_rfl) (by kernel_rfl) (by kernel_rfl) (fun _ _ _ h => h) (by rfl) (by assumption) (v := ?_) ?_ ?_
                          rotate_left
                          · intro w hSw; (try dsimp only at hSw); go_simp; (try with_reducible rfl)
                          try simp only [Act.put, List.setIfInBounds_toArray, List.set_cons_zero, List.set_cons_succ]
                          refine take_yes 17 185 rfl rfl (by kernel_rfl) (by kernel_rfl) (by kernel_rfl) (fun _ _ _ h => h) (by rfl) (by assumption) (v := .bool false) ?_ ?_
                          · intro w hSw; (try dsimp only at hSw); go_simp
                          try simp only [Act.put, List.setIfInBounds_toArray, List.set_cons_zero, List.set_cons_succ]
                          refine take_yes 18 186 rfl rfl (by kernel_rfl) (by kernel_rfl) (by kernel_rfl) (fun _ _ _ h => h) (by rfl) (by assumption) (v := ?_) ?_ ?_
                          rotate_left
                          · intro w hSw; (try dsimp only at hSw); go_simp; (try with_reducible rfl)
                          try simp only [Act.put, List.setIfInBounds_toArray, List.set_cons_zero, List.set_cons_succ]
                          refine take_yes 19 187 rfl rfl (by kernel_rfl) (by kernel_rfl) (by kernel_rfl) (fun _ _ _ h => h) (by rfl) (by assumption) (v := ?_) ?_ ?_
                          rotate_left
                          · intro w hSw; (try dsimp only at hSw); go_simp; (try with_reducible rfl)
                          try simp only [Act.put, List.setIfInBounds_toArray, List.set_cons_zero, List.set_cons_succ]
                          refine take_no 20 188 rfl rfl (by kernel_rfl) (by kernel_rfl) (by kernel_rfl) (fun _ _ _ h => h) (by rfl) (by assumption) ?_
                          try simp only [Act.put, List.setIfInBounds_toArray, List.set_cons_zero, List.set_cons_succ]
                          refine take_no 21 189 rfl rfl (by kernel_rfl) (by kernel_rfl) (by kernel_rfl) (fun _ _ _ h => h) (by rfl) (by assumption) ?_
                          try simp only [Act.put, List.setIfInBounds_toArray, List.set_cons_zero, List.set_cons_succ]
                          refine take_no 22 190 rfl rfl (by kernel_rfl) (by kernel_rfl) (by kernel_rfl) (fun _ _ _ h => h) (by rfl) (by assumption) ?_
                          try simp only [Act.put, List.setIfInBounds_toArray, List.set_cons_zero, List.set_cons_succ]
                          refine take_no 23 191 rfl rfl (by kernel_rfl) (by kernel_rfl) (by kernel_rfl) (fun _ _ _ h => h) (by rfl) (by assumption) ?_
                          try simp only [Act.put, List.setIfInBounds_toArray, List.set_cons_zero, List.set_cons_succ]
                          refine take_no 24 192 rfl rfl (by kernel_rfl) (by kernel_rfl) (by kernel_rfl) (fun _ _ _ h => h) (by rfl) (by assumption) ?_
                          try simp only [Act.put, List.setIfInBounds_toArray, List.set_cons_zero, List.set_cons_succ]
                          refine take_no 25 193 rfl rfl (by kernel_rfl) (by kernel_rfl) (by kernel_rfl) (fun _ _ _ h => h) (by rfl) (by assumption) ?_
                          try simp only [Act.put, List.setIfInBounds_toArray, List.set_cons_zero, List.set_cons_succ]
                          refine take_no 26 194 rfl rfl (by kernel_rfl) (by kernel_rfl) (by kernel_rfl) (fun _ _ _ h => h) (by rfl) (by assumption) ?_
                          try simp only [Act.put, List.setIfInBounds_toArray, List.set_cons_zero, List.set_cons_succ]
                          refine take_yes 27 195 rfl rfl (by kernel_rfl) (by kernel_rfl) (by kernel_rfl) (fun _ _ _ h => h) (by rfl) (by assumption) (v := ?_) ?_ ?_
                          rotate_left
                          · intro w hSw; (try dsimp only at hSw); go_simp; (try with_reducible rfl)
                          try simp only [Act.put, List.setIfInBounds_toArray, List.set_cons_zero, List.set_cons_succ]
                          refine take_yes 28 167 rfl rfl (by kernel_rfl) (by kernel_rfl) (by kernel_rfl) (fun _ _ _ h => h) (by rfl) (by assumption) (v := ?_) ?_ ?_
                          rotate_left
                          · intro w hSw; (try dsimp only at hSw); go_simp; (try with_reducible rfl)
                          try simp only [Act.put, List.setIfInBounds_toArray, List.set_cons_zero, List.set_cons_succ]
                          refine wpAnyH_done (by kernel_rfl) ?_ _
                          have HZ := Lib.hid (And.right (show _ ∧ _ from by assumption))
                          go_wp2_with fail
                          go_meet
                          exact ⟨by rw [HV.out], HZ.out⟩
                    · have q2 : (c == 167) = false := by rw [beq_eq_false_iff_ne]; exact h2
                      as_aux_lemma =>
                        have HV := Lib.hid (show decide (d.st = 3 ∧ c = 167 ∧ e1 = true ∧ ss = d.ss) = false from decide_eq_false (fun hh => h2 hh.2.1))
                        go_wp2_with fail
                        refine wp_region_held_drew (S := (fun W => (W.cell? ⟨g, 10, none⟩ = some (.int .i64 d.st) ∧ W.cell? ⟨g, 11, none⟩ = some (.int .i64 d.ss) ∧ W.cell? ⟨qd, 0, none⟩ = some (.int .i64 c) ∧ W.cell? ⟨qd, 1, none⟩ = some (.int .i64 ss) ∧ W.cell? ⟨q, 6, none⟩ = some (.int .u8 s1) ∧ W.cell? ⟨q, 7, none⟩ = some (.int .u8 s2) ∧ W.cell? ⟨q, 8, none⟩ = some (.int .u8 s3) ∧ W.cell? ⟨q, 9, none⟩ = some (.int .u8 s4) ∧ W.cell? ⟨q, 10, none⟩ = some (.int .u8 s5) ∧ W.cell? ⟨q, 11, none⟩ = some (.int .u8 s6) ∧ W.cell? ⟨g, 12, none⟩ = some (.int .u8 d.k.a) ∧ W.cell? ⟨g, 13, none⟩ = some (.int .u8 d.k.b) ∧ W.cell? ⟨g, 14, none⟩ = some (.int .u8 d.k.c) ∧ W.cell? ⟨g, 15, none⟩ = some (.int .u8 d.k.d) ∧ W.cell? ⟨g, 16, none⟩ = some (.int .u8 d.k.e) ∧ W.cell? ⟨g, 17, none⟩ = some (.int .u8 d.k.f)) ∧ Fr [] v1 W)) (by kernel_rfl) ?_ (fun hHeld => ?_)
                        · (try dsimp only); exact HCX1.out _ (Fr.refl [] v1).drew
                        refine take_yes 0 168 rfl rfl (by kernel_rfl) (by kernel_rfl) (by kernel_rfl) (fun _ _ _ h => h) (by rfl) (by assumption) (v := ?_) ?_ ?_
                        rotate_left
                        · intro w hSw; (try dsimp only at hSw); go_simp; (try with_reducible rfl)
                        try simp only [Act.put, List.setIfInBounds_toArray, List.set_cons_zero, List.set_cons_succ]
                        refine take_yes 1 169 rfl rfl (by kernel_rfl) (by kernel_rfl) (by kernel_rfl) (fun _ _ _ h => h) (by rfl) (by assumption) (v := ?_) ?_ ?_
                        rotate_left
                        · intro w hSw; (try dsimp only at hSw); go_simp; (try with_reducible rfl)
                        try simp only [Act.put, List.setIfInBounds_toArray, List.set_cons_zero, List.set_cons_succ]
                        refine take_yes 2 170 rfl rfl (by kernel_rfl) (by kernel_rfl) (by kernel_rfl) (fun _ _ _ h => h) (by rfl) (by assumption) (v := ?_) ?_ ?_
                        rotate_left
                        · intro w hSw; (try dsimp only at hSw); go_simp; (try with_reducible rfl)
                        try simp only [Act.put, List.setIfInBounds_toArray, List.set_cons_zero, List.set_cons_succ]
                        refine take_yes 3 171 rfl rfl (by kernel_rfl) (by kernel_rfl) (by kernel_rfl) (fun _ _ _ h => h) (by rfl) (by assumption) (v := ?_) ?_ ?_
                        rotate_left
                        · intro w hSw; (try dsimp only at hSw); go_simp; (try with_reducible rfl)
                        try simp only [Act.put, List.setIfInBounds_toArray, List.set_cons_zero, List.set_cons_succ]
                        refine take_yes 4 172 rfl rfl (by kernel_rfl) (by kernel_rfl) (by kernel_rfl) (fun _ _ _ h => h) (by rfl) (by assumption) (v := .bool true) ?_ ?_
                        · intro w hSw; (try dsimp only at hSw); go_simp
                        try simp only [Act.put, List.setIfInBounds_toArray, List.set_cons_zero, List.set_cons_succ]
                        refine take_yes 5 173 rfl rfl (by kernel_rfl) (by kernel_rfl) (by kernel_rfl) (fun _ _ _ h => h) (by rfl) (by assumption) (v := ?_) ?_ ?_
                        rotate_left
                        · intro w hSw; (try dsimp only at hSw); go_simp; (try with_reducible rfl)
                        try simp only [Act.put, List.setIfInBounds_toArray, List.set_cons_zero, List.set_cons_succ]
                        refine take_yes 6 174 rfl rfl (by kernel_rfl) (by kernel_rfl) (by kernel_rfl) (fun _ _ _ h => h) (by rfl) (by assumption) (v := ?_) ?_ ?_
                        rotate_left
                        · intro w hSw; (try dsimp only at hSw); go_simp; (try with_reducible rfl)
                        try simp only [Act.put, List.setIfInBounds_toArray, List.set_cons_zero, List.set_cons_succ]
                        refine take_yes 7 175 rfl rfl (by kernel_rfl) (by kernel_rfl) (by kernel_rfl) (fun _ _ _ h => h) (by rfl) (by assumption) (v := ?_) ?_ ?_
                        rotate_left
                        · intro w hSw; (try dsimp only at hSw); go_simp; (try with_reducible rfl)
                        try simp only [Act.put, List.setIfInBounds_toArray, List.set_cons_zero, List.set_cons_succ]
                        refine take_yes 8 176 rfl rfl (by kernel_rfl) (by kernel_rfl) (by kernel_rfl) (fun _ _ _ h => h) (by rfl) (by assumption) (v := .bool false) ?_ ?_
                        · intro w hSw; (try dsimp only at hSw); go_simp
                        try simp only [Act.put, List.setIfInBounds_toArray, List.set_cons_zero, List.set_cons_succ]
                        refine take_yes 9 177 rfl rfl (by kernel_rfl) (by kernel_rfl) (by kernel_rfl) (fun _ _ _ h => h) (by rfl) (by assumption) (v := ?_) ?_ ?_
                        rotate_left
                        · intro w hSw; (try dsimp only at hSw); go_simp; (try with_reducible rfl)
                        try simp only [Act.put, List.setIfInBounds_toArray, List.set_cons_zero, List.set_cons_succ]
                        refine take_yes 10 178 rfl rfl (by kernel_rfl) (by kernel_rfl) (by kernel_rfl) (fun _ _ _ h => h) (by rfl) (by assumption) (v := ?_) ?_ ?_
                        rotate_left
                        · intro w hSw; (try dsimp only at hSw); go_simp; (try with_reducible rfl)
                        try simp only [Act.put, List.setIfInBounds_toArray, List.set_cons_zero, List.set_cons_succ]
                        refine take_no 11 179 rfl rfl (by kernel_rfl) (by kernel_rfl) (by kernel_rfl) (fun _ _ _ h => h) (by rfl) (by assumption) ?_
                        try simp only [Act.put, List.setIfInBounds_toArray, List.set_cons_zero, List.set_cons_succ]
                        refine take_no 12 180 rfl rfl (by kernel_rfl) (by kernel_rfl) (by kernel_rfl) (fun _ _ _ h => h) (by rfl) (by assumption) ?_
                        try simp only [Act.put, List.setIfInBounds_toArray, List.set_cons_zero, List.set_cons_succ]
                        refine take_no 13 181 rfl rfl (by kernel_rfl) (by kernel_rfl) (by kernel_rfl) (fun _ _ _ h => h) (by rfl) (by assumption) ?_
                        try simp only [Act.put, List.setIfInBounds_toArray, List.set_cons_zero, List.set_cons_succ]
                        refine take_no 14 182 rfl rfl (by kernel_rfl) (by kernel_rfl) (by kernel_rfl) (fun _ _ _ h => h) (by rfl) (by assumption) ?_
                        try simp only [Act.put, List.setIfInBounds_toArray, List.set_cons_zero, List.set_cons_succ]
                        refine take_no 15 183 rfl rfl (by kernel_rfl) (by kernel_rfl) (by kernel_rfl) (fun _ _ _ h => h) (by rfl) (by assumption) ?_
                        try simp only [Act.put, List.setIfInBounds_toArray, List.set_cons_zero, List.set_cons_succ]
                        refine take_no 16 184 rfl rfl (by kernel_rfl) (by kernel_rfl) (by kernel_rfl) (fun _ _ _ h => h) (by rfl) (by assumption) ?_
                        try simp only [Act.put, List.setIfInBounds_toArray, List.set_cons_zero, List.set_cons_succ]
                        refine take_no 17 185 rfl rfl (by kernel_rfl) (by kernel_rfl) (by kernel_rfl) (fun _ _ _ h => h) (by rfl) (by assumption) ?_
                        try simp only [Act.put, List.setIfInBounds_toArray, List.set_cons_zero, List.set_cons_succ]
                        refine take_yes 18 186 rfl rfl (by kernel_rfl) (by kernel_rfl) (by kernel_rfl) (fun _ _ _ h => h) (by rfl) (by assumption) (v := ?_) ?_ ?_
                        rotate_left
                        · intro w hSw; (try dsimp only at hSw); go_simp; (try with_reducible rfl)
                        try simp only [Act.put, List.setIfInBounds_toArray, List.set_cons_zero, List.set_cons_succ]
                        refine take_yes 19 187 rfl rfl (by kernel_rfl) (by kernel_rfl) (by kernel_rfl) (fun _ _ _ h => h) (by rfl) (by assumption) (v := ?_) ?_ ?_
                        rotate_left
                        · intro w hSw; (try dsimp only at hSw); go_simp; (try with_reducible rfl)
                        try simp only [Act.put, List.setIfInBounds_toArray, List.set_cons_zero, List.set_cons_succ]
                        refine take_no 20 188 rfl rfl (by kernel_rfl) (by kernel_rfl) (by kernel_rfl) (fun _ _ _ h => h) (by rfl) (by assumption) ?_
                        try simp only [Act.put, List.setIfInBounds_toArray, List.set_cons_zero, List.set_cons_succ]
                        refine take_no 21 189 rfl rfl (by kernel_rfl) (by kernel_rfl) (by kernel_rfl) (fun _ _ _ h => h) (by rfl) (by assumption) ?_
                        try simp only [Act.put, List.setIfInBounds_toArray, List.set_cons_zero, List.set_cons_succ]
                        refine take_no 22 190 rfl rfl (by kernel_rfl) (by kernel_rfl) (by kernel_rfl) (fun _ _ _ h => h) (by rfl) (by assumption) ?_
                        try simp only [Act.put, List.setIfInBounds_toArray, List.set_cons_zero, List.set_cons_succ]
                        refine take_no 23 191 rfl rfl (by kernel_rfl) (by kernel_rfl) (by kernel_rfl) (fun _ _ _ h => h) (by rfl) (by assumption) ?_
                        try simp only [Act.put, List.setIfInBounds_toArray, List.set_cons_zero, List.set_cons_succ]
                        refine take_no 24 192 rfl rfl (by kernel_rfl) (by kernel_rfl) (by kernel_rfl) (fun _ _ _ h => h) (by rfl) (by assumption) ?_
                        try simp only [Act.put, List.setIfInBounds_toArray, List.set_cons_zero, List.set_cons_succ]
                        refine take_no 25 193 rfl rfl (by kernel_rfl) (by kernel_rfl) (by kernel_rfl) (fun _ _ _ h => h) (by rfl) (by assumption) ?_
                        try simp only [Act.put, List.setIfInBounds_toArray, List.set_cons_zero, List.set_cons_succ]
                        refine take_no 26 194 rfl rfl (by kernel_rfl) (by kernel_rfl) (by kernel_rfl) (fun _ _ _ h => h) (by rfl) (by assumption) ?_
                        try simp only [Act.put, List.setIfInBounds_toArray, List.set_cons_zero, List.set_cons_succ]
                        refine take_yes 27 195 rfl rfl (by kernel_rfl) (by kernel_rfl) (by kernel_rfl) (fun _ _ _ h => h) (by rfl) (by assumption) (v := ?_) ?_ ?_
                        rotate_left
                        · intro w hSw; (try dsimp only at hSw); go_simp; (try with_reducible rfl)
                        try simp only [Act.put, List.setIfInBounds_toArray, List.set_cons_zero, List.set_cons_succ]
                        refine take_yes 28 167 rfl rfl (by kernel_rfl) (by kernel_rfl) (by kernel_rfl) (fun _ _ _ h => h) (by rfl) (by assumption) (v := ?_) ?_ ?_
                        rotate_left
                        · intro w hSw; (try dsimp only at hSw); go_simp; (try with_reducible rfl)
                        try simp only [Act.put, List.setIfInBounds_toArray, List.set_cons_zero, List.set_cons_succ]
                        refine wpAnyH_done (by kernel_rfl) ?_ _
                        have HZ := Lib.hid (And.right (show _ ∧ _ from by assumption))
                        go_wp2_with fail
                        go_meet
                        exact ⟨by rw [HV.out], HZ.out⟩
                  · have q1 : (d.st == 3) = false := by rw [beq_eq_false_iff_ne]; exact h1
                    as_aux_lemma =>
                      have HV := Lib.hid (show decide (d.st = 3 ∧ c = 167 ∧ e1 = true ∧ ss = d.ss) = false from decide_eq_false (fun hh => h1 hh.1))
                      go_wp2_with fail
                      refine wp_region_held_drew (S := (fun W => (W.cell? ⟨g, 10, none⟩ = some (.int .i64 d.st) ∧ W.cell? ⟨g, 11, none⟩ = some (.int .i64 d.ss) ∧ W.cell? ⟨qd, 0, none⟩ = some (.int .i64 c) ∧ W.cell? ⟨qd, 1, none⟩ = some (.int .i64 ss) ∧ W.cell? ⟨q, 6, none⟩ = some (.int .u8 s1) ∧ W.cell? ⟨q, 7, none⟩ = some (.int .u8 s2) ∧ W.cell? ⟨q, 8, none⟩ = some (.int .u8 s3) ∧ W.cell? ⟨q, 9, none⟩ = some (.int .u8 s4) ∧ W.cell? ⟨q, 10, none⟩ = some (.int .u8 s5) ∧ W.cell? ⟨q, 11, none⟩ = some (.int .u8 s6) ∧ W.cell? ⟨g, 12, none⟩ = some (.int .u8 d.k.a) ∧ W.cell? ⟨g, 13, none⟩ = some (.int .u8 d.k.b) ∧ W.cell? ⟨g, 14, none⟩ = some (.int .u8 d.k.c) ∧ W.cell? ⟨g, 15, none⟩ = some (.int .u8 d.k.d) ∧ W.cell? ⟨g, 16, none⟩ = some (.int .u8 d.k.e) ∧ W.cell? ⟨g, 17, none⟩ = some (.int .u8 d.k.f)) ∧ Fr [] v1 W)) (by kernel_rfl) ?_ (fun hHeld => ?_)
                      · (try dsimp only); exact HCX1.out _ (Fr.refl [] v1).drew
                      refine take_yes 0 168 rfl rfl (by kernel_rfl) (by kernel_rfl) (by kernel_rfl) (fun _ _ _ h => h) (by rfl) (by assumption) (v := ?_) ?_ ?_
                      rotate_left
                      · intro w hSw; (try dsimp only at hSw); go_simp; (try with_reducible rfl)
                      try simp only [Act.put, List.setIfInBounds_toArray, List.set_cons_zero, List.set_cons_succ]
                      refine take_yes 1 169 rfl rfl (by kernel_rfl) (by kernel_rfl) (by kernel_rfl) (fun _ _ _ h => h) (by rfl) (by assumption) (v := ?_) ?_ ?_
                      rotate_left
                      · intro w hSw; (try dsimp only at hSw); go_simp; (try with_reducible rfl)
                      try simp only [Act.put, List.setIfInBounds_toArray, List.set_cons_zero, List.set_cons_succ]
                      refine take_yes 2 170 rfl rfl (by kernel_rfl) (by kernel_rfl) (by kernel_rfl) (fun _ _ _ h => h) (by rfl) (by assumption) (v := ?_) ?_ ?_
                      rotate_left
                      · intro w hSw; (try dsimp only at hSw); go_simp; (try with_reducible rfl)
                      try simp only [Act.put, List.setIfInBounds_toArray, List.set_cons_zero, List.set_cons_succ]
                      refine take_yes 3 171 rfl rfl (by kernel_rfl) (by kernel_rfl) (by kernel_rfl) (fun _ _ _ h => h) (by rfl) (by assumption) (v := ?_) ?_ ?_
                      rotate_left
                      · intro w hSw; (try dsimp only at hSw); go_simp; (try with_reducible rfl)
                      try simp only [Act.put, List.setIfInBounds_toArray, List.set_cons_zero, List.set_cons_succ]
                      refine take_yes 4 172 rfl rfl (by kernel_rfl) (by kernel_rfl) (by kernel_rfl) (fun _ _ _ h => h) (by rfl) (by assumption) (v := .bool false) ?_ ?_
                      · intro w hSw; (try dsimp only at hSw); go_simp
                      try simp only [Act.put, List.setIfInBounds_toArray, List.set_cons_zero, List.set_cons_succ]
                      refine take_yes 5 173 rfl rfl (by kernel_rfl) (by kernel_rfl) (by kernel_rfl) (fun _ _ _ h => h) (by rfl) (by assumption) (v := ?_) ?_ ?_
                      rotate_left
                      · intro w hSw; (try dsimp only at hSw); go_simp; (try with_reducible rfl)
                      try simp only [Act.put, List.setIfInBounds_toArray, List.set_cons_zero, List.set_cons_succ]
                      refine take_no 6 174 rfl rfl (by kernel_rfl) (by kernel_rfl) (by kernel_rfl) (fun _ _ _ h => h) (by rfl) (by assumption) ?_
                      try simp only [Act.put, List.setIfInBounds_toArray, List.set_cons_zero, List.set_cons_succ]
                      refine take_no 7 175 rfl rfl (by kernel_rfl) (by kernel_rfl) (by kernel_rfl) (fun _ _ _ h => h) (by rfl) (by assumption) ?_
                      try simp only [Act.put, List.setIfInBounds_toArray, List.set_cons_zero, List.set_cons_succ]
                      refine take_no 8 176 rfl rfl (by kernel_rfl) (by kernel_rfl) (by kernel_rfl) (fun _ _ _ h => h) (by rfl) (by assumption) ?_
                      try simp only [Act.put, List.setIfInBounds_toArray, List.set_cons_zero, List.set_cons_succ]
                      refine take_yes 9 177 rfl rfl (by kernel_rfl) (by kernel_rfl) (by kernel_rfl) (fun _ _ _ h => h) (by rfl) (by assumption) (v := ?_) ?_ ?_
                      rotate_left
                      · intro w hSw; (try dsimp only at hSw); go_simp; (try with_reducible rfl)
                      try simp only [Act.put, List.setIfInBounds_toArray, List.set_cons_zero, List.set_cons_succ]
                      refine take_yes 10 178 rfl rfl (by kernel_rfl) (by kernel_rfl) (by kernel_rfl) (fun _ _ _ h => h) (by rfl) (by assumption) (v := ?_) ?_ ?_
                      rotate_left
                      · intro w hSw; (try dsimp only at hSw); go_simp; (try with_reducible rfl)
                      try simp only [Act.put, List.setIfInBounds_toArray, List.set_cons_zero, List.set_cons_succ]
                      refine take_no 11 179 rfl rfl (by kernel_rfl) (by kernel_rfl) (by kernel_rfl) (fun _ _ _ h => h) (by rfl) (by assumption) ?_
                      try simp only [Act.put, List.setIfInBounds_toArray, List.set_cons_zero, List.set_cons_succ]
                      refine take_no 12 180 rfl rfl (by kernel_rfl) (by kernel_rfl) (by kernel_rfl) (fun _ _ _ h => h) (by rfl) (by assumption) ?_
                      try simp only [Act.put, List.setIfInBounds_toArray, List.set_cons_zero, List.set_cons_succ]
                      refine take_no 13 181 rfl rfl (by kernel_rfl) (by kernel_rfl) (by kernel_rfl) (fun _ _ _ h => h) (by rfl) (by assumption) ?_
                      try simp only [Act.put, List.setIfInBounds_toArray, List.set_cons_zero, List.set_cons_succ]
                      refine take_no 14 182 rfl rfl (by kernel_rfl) (by kernel_rfl) (by kernel_rfl) (fun _ _ _ h => h) (by rfl) (by assumption) ?_
                      try simp only [Act.put, List.setIfInBounds_toArray, List.set_cons_zero, List.set_cons_succ]
                      refine take_no 15 183 rfl rfl (by kernel_rfl) (by kernel_rfl) (by kernel_rfl) (fun _ _ _ h => h) (by rfl) (by assumption) ?_
                      try simp only [Act.put, List.setIfInBounds_toArray, List.set_cons_zero, List.set_cons_succ]
                      refine take_no 16 184 rfl rfl (by kernel_rfl) (by kernel_rfl) (by kernel_rfl) (fun _ _ _ h => h) (by rfl) (by assumption) ?_
                      try simp only [Act.put, List.setIfInBounds_toArray, List.set_cons_zero, List.set_cons_succ]
                      refine take_no 17 185 rfl rfl (by kernel_rfl) (by kernel_rfl) (by kernel_rfl) (fun _ _ _ h => h) (by rfl) (by assumption) ?_
                      try simp only [Act.put, List.setIfInBounds_toArray, List.set_cons_zero, List.set_cons_succ]
                      refine take_yes 18 186 rfl rfl (by kernel_rfl) (by kernel_rfl) (by kernel_rfl) (fun _ _ _ h => h) (by rfl) (by assumption) (v := ?_) ?_ ?_
                      rotate_left
                      · intro w hSw; (try dsimp only at hSw); go_simp; (try with_reducible rfl)
                      try simp only [Act.put, List.setIfInBounds_toArray, List.set_cons_zero, List.set_cons_succ]
                      refine take_yes 19 187 rfl rfl (by kernel_rfl) (by kernel_rfl) (by kernel_rfl) (fun _ _ _ h => h) (by rfl) (by assumption) (v := ?_) ?_ ?_
                      rotate_left
                      · intro w hSw; (try dsimp only at hSw); go_simp; (try with_reducible rfl)
                      try simp only [Act.put, List.setIfInBounds_toArray, List.set_cons_zero, List.set_cons_succ]
                      refine take_no 20 188 rfl rfl (by kernel_rfl) (by kernel_rfl) (by kernel_rfl) (fun _ _ _ h => h) (by rfl) (by assumption) ?_
                      try simp only [Act.put, List.setIfInBounds_toArray, List.set_cons_zero, List.set_cons_succ]
                      refine take_no 21 189 rfl rfl (by kernel_rfl) (by kernel_rfl) (by kernel_rfl) (fun _ _ _ h => h) (by rfl) (by assumption) ?_
                      try simp only [Act.put, List.setIfInBounds_toArray, List.set_cons_zero, List.set_cons_succ]
                      refine take_no 22 190 rfl rfl (by kernel_rfl) (by kernel_rfl) (by kernel_rfl) (fun _ _ _ h => h) (by rfl) (by assumption) ?_
                      try simp only [Act.put, List.setIfInBounds_toArray, List.set_cons_zero, List.set_cons_succ]
                      refine take_no 23 191 rfl rfl (by kernel_rfl) (by kernel_rfl) (by kernel_rfl) (fun _ _ _ h => h) (by rfl) (by assumption) ?_
                      try simp only [Act.put, List.setIfInBounds_toArray, List.set_cons_zero, List.set_cons_succ]
                      refine take_no 24 192 rfl rfl (by kernel_rfl) (by kernel_rfl) (by kernel_rfl) (fun _ _ _ h => h) (by rfl) (by assumption) ?_
                      try simp only [Act.put, List.setIfInBounds_toArray, List.set_cons_zero, List.set_cons_succ]
                      refine take_no 25 193 rfl rfl (by kernel_rfl) (by kernel_rfl) (by kernel_rfl) (fun _ _ _ h => h) (by rfl) (by assumption) ?_
                      try simp only [Act.put, List.setIfInBounds_toArray, List.set_cons_zero, List.set_cons_succ]
                      refine take_no 26 194 rfl rfl (by kernel_rfl) (by kernel_rfl) (by kernel_rfl) (fun _ _ _ h => h) (by rfl) (by assumption) ?_
                      try simp only [Act.put, List.setIfInBounds_toArray, List.set_cons_zero, List.set_cons_succ]
                      refine take_yes 27 195 rfl rfl (by kernel_rfl) (by kernel_rfl) (by kernel_rfl) (fun _ _ _ h => h) (by rfl) (by assumption) (v := ?_) ?_ ?_
                      rotate_left
                      · intro w hSw; (try dsimp only at hSw); go_simp; (try with_reducible rfl)
                      try simp only [Act.put, List.setIfInBounds_toArray, List.set_cons_zero, List.set_cons_succ]
                      refine take_yes 28 167 rfl rfl (by kernel_rfl) (by kernel_rfl) (by kernel_rfl) (fun _ _ _ h => h) (by rfl) (by assumption) (v := ?_) ?_ ?_
                      rotate_left
                      · intro w hSw; (try dsimp only at hSw); go_simp; (try with_reducible rfl)
                      try simp only [Act.put, List.setIfInBounds_toArray, List.set_cons_zero, List.set_cons_succ]
                      refine wpAnyH_done (by kernel_rfl) ?_ _
                      have HZ := Lib.hid (And.right (show _ ∧ _ from by assumption))
                      go_wp2_with fail
                      go_meet
                      exact ⟨by rw [HV.out], HZ.out⟩
                case rest =>
                  obtain ⟨rfl, hF2⟩ := hcut
                  obtain ⟨v2, rfl⟩ : ∃ x, x = wc := ⟨_, rfl⟩
                  have HV2 := Lib.hid hF2
                  clear hF2
                  have hwB : ¬ (d.st = 2 ∧ c = 101 ∧ mcEq ⟨s1, s2, s3, s4, s5, s6⟩ d.k = true ∧ mineB d.un l = true) := fun hh => hB2 ⟨hh.1, hh.2.1, by rw [← HE1.out]; exact hh.2.2.1, by rw [← HMN.out]; exact hh.2.2.2⟩
                  by_cases hC2 : d.st = 3 ∧ c = 167 ∧ e1 = true ∧ ss = d.ss
                  · rw [decide_eq_true hC2]
                    as_aux_lemma =>
                      have HGT : Hid (dTake d (⟨k1, k2, k3, k4, k5, k6⟩, ⟨s1, s2, s3, s4, s5, s6⟩, ty, d0) = ({ d with st := 0 }, [])) := Lib.hid (by rw [HPT.out]; unfold dGot; rw [if_neg hA, if_neg hwB, if_pos ⟨hC2.1, hC2.2.1, by rw [HE1.out]; exact hC2.2.2.1, hC2.2.2.2⟩])
                      have hB2b := HBC.out _ (HV1.out.trans HV2.out)
                      have g10 := hB2b.c 10 _ rfl
                      have f10 := hB2b.fz 10
                      have hB3 : Blk (v2.setCell ⟨g, 10, none⟩ (.int .i64 0)) g (dhC { d with st := 0 }) 254 := by
                        have := hB2b.set 10 (.int .i64 0)
                        simpa [dhC] using this
                      have HX : Hid (DOut w g (dTake d (⟨k1, k2, k3, k4, k5, k6⟩, ⟨s1, s2, s3, s4, s5, s6⟩, ty, d0)).2 (dTake d (⟨k1, k2, k3, k4, k5, k6⟩, ⟨s1, s2, s3, s4, s5, s6⟩, ty, d0)).1 (.returned (.slice none 0 0)) (v2.setCell ⟨g, 10, none⟩ (.int .i64 0))) := Lib.hid (by rw [HGT.out]; exact ⟨OutP.none_ (((HFC.out.trans (HV1.out.trans HV2.out)).mono (by simp)).setCell (by simp) _), hB3⟩)
                      clear hB2b hB3 hC2 hwB hA hB2
                      go_wp2_with fail
                      go_ret
                      exact HX.out
                  · rw [decide_eq_false hC2]
                    have HGT : Hid (dTake d (⟨k1, k2, k3, k4, k5, k6⟩, ⟨s1, s2, s3, s4, s5, s6⟩, ty, d0) = (d, [])) := Lib.hid (by rw [HPT.out]; unfold dGot; rw [if_neg hA, if_neg hwB, if_neg (fun hh => hC2 ⟨hh.1, hh.2.1, by rw [← HE1.out]; exact hh.2.2.1, hh.2.2.2⟩)])
                    have HX : Hid (DOut w g (dTake d (⟨k1, k2, k3, k4, k5, k6⟩, ⟨s1, s2, s3, s4, s5, s6⟩, ty, d0)).2 (dTake d (⟨k1, k2, k3, k4, k5, k6⟩, ⟨s1, s2, s3, s4, s5, s6⟩, ty, d0)).1 (.returned (.slice none 0 0)) v2) := Lib.hid (by rw [HGT.out]; exact ⟨OutP.none_ ((HFC.out.trans (HV1.out.trans HV2.out)).mono (by simp)), HBC.out _ (HV1.out.trans HV2.out)⟩)
                    clear hC2 hwB hA hB2
                    go_wp2_with fail
                    go_ret
                    exact HX.out
end
end Go.Proofs.YtfchbppfbepelaaGreat
