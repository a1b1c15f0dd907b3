/- Frames cut short. -/
import Derived.Test.YtmdgilhjiooalaaEtherS
namespace Go.Proofs.Ytmdgilhjiooalaa
open Go.RowKit
set_option linter.unusedVariables false

theorem graL_length (f t : Int) (d : List UInt8) (h : graE f t d = 0) : (graL f t d).length = d.length + 8 := by
  unfold graL; rw [if_pos h, sealL_length]; simp [be_length]; omega
theorem ethL_length (xs ys : List Int) (t : Int) (d : List UInt8) (h : ethE t d = 0) (hx : xs.length = 6) (hy : ys.length = 6) : (ethL xs ys t d).length = d.length + 14 := by
  unfold ethL; rw [if_pos h]; simp [be_length, bytesOf, hx, hy]; omega
theorem gm_short (l d : List UInt8) (h : gmE l = 0) (hl : l.length < d.length + 8) : ((unsL l).drop 6).length ≠ d.length := by
  by_cases h0 : unsE l = 0
  · have h2 : unsL l = l.take (l.length - 2) := by unfold unsL; rw [if_pos h0]
    have h3 : 2 ≤ l.length := by
      by_cases h3 : l.length < 2
      · unfold unsE at h0; rw [if_pos h3] at h0; exact absurd h0 (by omega)
      · omega
    by_cases h4 : (unsL l).length < 6
    · unfold gmE at h; rw [if_neg (by simp [h0]), if_pos h4] at h; exact absurd h (by omega)
    · rw [h2] at h4 ⊢
      simp only [List.length_take, List.length_drop] at *
      omega
  · unfold gmE at h; rw [if_pos h0] at h; exact absurd h h0

set_option maxHeartbeats 1000000 in
theorem wireShort_AA (w : World) (x0 x1 x2 x3 x4 x5 y0 y1 y2 y3 y4 y5 ty : Int) (fd : List UInt8) (fr to : Int) (d : List UInt8) (c : Nat) (S T : List UInt8)
    (hS : ethL [x0, x1, x2, x3, x4, x5] [y0, y1, y2, y3, y4, y5] ty fd = S) (hT : graL fr to d = T) (hsum : fd.length + d.length ≤ 3100)
    (E : Int) (hE : ethE ty fd = E) (hb : (E == 0) = false)
    (G : Int) (hG : graE fr to d = G) (hb2 : (G == 0) = false) :
    Calls Try.prog 11 #[.agg #[.int .u8 x0, .int .u8 x1, .int .u8 x2, .int .u8 x3, .int .u8 x4, .int .u8 x5, .int .u8 y0, .int .u8 y1, .int .u8 y2, .int .u8 y3, .int .u8 y4, .int .u8 y5, .int .i64 ty, .string (B fd)], .agg #[.int .i64 fr, .int .i64 to, .string (B d)], .int .i64 c] w
      fun e w' => e = .returned (.bool true) ∧ Below w.heap.size w w' := by
  have i1 : (fd.length : Int) + d.length ≤ 3100 := by omega
  have w1 : IntKind.i64.wrap ((fd.length : Int) + d.length) = (fd.length : Int) + d.length := IntWalk.i64_in _ (by omega)
  have i2 : ¬ (c : Int) < 0 := by omega
  go_enter Try.func11, Try.ntmps11
  go_wp2_with fail
  refine (putether_any x0 x1 x2 x3 x4 x5 y0 y1 y2 y3 y4 y5 ty fd _ (by omega)).mono ?_
  rw [hS, hE]
  rintro e w2 ⟨rfl, hF⟩
  have hBd := hF.blk (Blk.new (w.alloc (.cells #[.int .u8 x0, .int .u8 x1, .int .u8 x2, .int .u8 x3, .int .u8 x4, .int .u8 x5, .int .u8 y0, .int .u8 y1, .int .u8 y2, .int .u8 y3, .int .u8 y4, .int .u8 y5, .int .i64 ty, .string (B fd)] 43)) #[.int .i64 fr, .int .i64 to, .string (B d)] 45) (by simp)
  rw [show ∀ o, (w.alloc o).heap.size = w.heap.size + 1 from fun o => by simp] at hBd
  have hF0 := (((Fr.refl [] w).alloc _).alloc _).trans hF
  clear hF
  have hBe := hBd
  have d0 := hBe.c 0 _ rfl
  have d1 := hBe.c 1 _ rfl
  have d2 := hBe.c 2 _ rfl
  go_wp2_with fail
  refine (putgram_any fr to d _ (by omega)).mono ?_
  rw [hT, hG]
  rintro e w4 ⟨rfl, hF4⟩
  go_wp2_with fail
  refine (alive1 _).mono ?_
  rintro e w6 ⟨rfl, hF6⟩
  go_wp2
  go_ret
  exact ⟨rfl, ((hF0.trans hF4).trans hF6).below (Nat.le_refl _) (by simp)⟩

set_option maxHeartbeats 1000000 in
theorem wireShort_AB (w : World) (x0 x1 x2 x3 x4 x5 y0 y1 y2 y3 y4 y5 ty : Int) (fd : List UInt8) (fr to : Int) (d : List UInt8) (c : Nat) (S T : List UInt8)
    (hS : ethL [x0, x1, x2, x3, x4, x5] [y0, y1, y2, y3, y4, y5] ty fd = S) (hT : graL fr to d = T) (hsum : fd.length + d.length ≤ 3100)
    (E : Int) (hE : ethE ty fd = E) (hb : (E == 0) = false)
    (hG : graE fr to d = 0) (lT : T.length = d.length + 8) (k : Nat) (hk : c % T.length = k)
    (H : Int) (hgE : gmE (T.take k) = H) (hb3 : (H == 0) = false) (m : List UInt8) (a b : Int) (hgV : gmV (T.take k) = .agg #[.int .i64 a, .int .i64 b, .string (B m)]) :
    Calls Try.prog 11 #[.agg #[.int .u8 x0, .int .u8 x1, .int .u8 x2, .int .u8 x3, .int .u8 x4, .int .u8 x5, .int .u8 y0, .int .u8 y1, .int .u8 y2, .int .u8 y3, .int .u8 y4, .int .u8 y5, .int .i64 ty, .string (B fd)], .agg #[.int .i64 fr, .int .i64 to, .string (B d)], .int .i64 c] w
      fun e w' => e = .returned (.bool true) ∧ Below w.heap.size w w' := by
  have i1 : (fd.length : Int) + d.length ≤ 3100 := by omega
  have w1 : IntKind.i64.wrap ((fd.length : Int) + d.length) = (fd.length : Int) + d.length := IntWalk.i64_in _ (by omega)
  have i2 : ¬ (c : Int) < 0 := by omega
  have i6 : ¬ (T.length : Int) = 0 := by omega
  have hk' := Nat.mod_lt c (show 0 < T.length by omega)
  rw [hk] at hk'
  have i9 : (k : Int) ≤ T.length := by omega
  have tl : (T.take k).length ≤ 1000000 := by rw [List.length_take]; omega
  clear lT
  go_enter Try.func11, Try.ntmps11
  go_wp2_with fail
  refine (putether_any x0 x1 x2 x3 x4 x5 y0 y1 y2 y3 y4 y5 ty fd _ (by omega)).mono ?_
  rw [hS, hE]
  rintro e w2 ⟨rfl, hF⟩
  have hBd := hF.blk (Blk.new (w.alloc (.cells #[.int .u8 x0, .int .u8 x1, .int .u8 x2, .int .u8 x3, .int .u8 x4, .int .u8 x5, .int .u8 y0, .int .u8 y1, .int .u8 y2, .int .u8 y3, .int .u8 y4, .int .u8 y5, .int .i64 ty, .string (B fd)] 43)) #[.int .i64 fr, .int .i64 to, .string (B d)] 45) (by simp)
  rw [show ∀ o, (w.alloc o).heap.size = w.heap.size + 1 from fun o => by simp] at hBd
  have hF0 := (((Fr.refl [] w).alloc _).alloc _).trans hF
  clear hF
  have hBe := hBd
  have d0 := hBe.c 0 _ rfl
  have d1 := hBe.c 1 _ rfl
  have d2 := hBe.c 2 _ rfl
  go_wp2_with fail
  refine (putgram_any fr to d _ (by omega)).mono ?_
  rw [hT, hG]
  rintro e w4 ⟨rfl, hF4⟩
  go_wp2_with fail
  refine (getgram_any _ _ tl).mono ?_
  rw [hgE, hgV]
  rintro e w5 ⟨rfl, hF5⟩
  have hBf := (hF5.blk (hF4.blk hBe (by simp)) (by simp)).alloc (.cells #[.int .i64 a, .int .i64 b, .string (B m)] 45)
  replace hF0 := ((hF0.trans hF4).trans hF5).alloc (.cells #[.int .i64 a, .int .i64 b, .string (B m)] 45)
  go_wp2_with fail
  refine (alive1 _).mono ?_
  rintro e w6 ⟨rfl, hF6⟩
  have hBg := hF6.blk hBf (by simp)
  have hBh := hF6.blk (Blk.new _ _ _) (by simp)
  have f0 := hBg.c 0 _ rfl
  have f1 := hBg.c 1 _ rfl
  have f2 := hBg.c 2 _ rfl
  have g0 := hBh.c 0 _ rfl
  have g1 := hBh.c 1 _ rfl
  have g2 := hBh.c 2 _ rfl
  go_wp2
  all_goals first | exact absurd hb3 (by rw [(by assumption : H = 0)]; decide) | (go_ret; exact ⟨rfl, (hF0.trans hF6).below (Nat.le_refl _) (by simp)⟩)

set_option maxHeartbeats 1000000 in
theorem wireShort_AC (w : World) (x0 x1 x2 x3 x4 x5 y0 y1 y2 y3 y4 y5 ty : Int) (fd : List UInt8) (fr to : Int) (d : List UInt8) (c : Nat) (S T : List UInt8)
    (hS : ethL [x0, x1, x2, x3, x4, x5] [y0, y1, y2, y3, y4, y5] ty fd = S) (hT : graL fr to d = T) (hsum : fd.length + d.length ≤ 3100)
    (E : Int) (hE : ethE ty fd = E) (hb : (E == 0) = false)
    (hG : graE fr to d = 0) (lT : T.length = d.length + 8) (k : Nat) (hk : c % T.length = k)
    (m : List UInt8) (a b : Int) (hgE : gmE (T.take k) = 0) (hgV : gmV (T.take k) = .agg #[.int .i64 a, .int .i64 b, .string (B m)]) (hm : m.length ≠ d.length) :
    Calls Try.prog 11 #[.agg #[.int .u8 x0, .int .u8 x1, .int .u8 x2, .int .u8 x3, .int .u8 x4, .int .u8 x5, .int .u8 y0, .int .u8 y1, .int .u8 y2, .int .u8 y3, .int .u8 y4, .int .u8 y5, .int .i64 ty, .string (B fd)], .agg #[.int .i64 fr, .int .i64 to, .string (B d)], .int .i64 c] w
      fun e w' => e = .returned (.bool true) ∧ Below w.heap.size w w' := by
  have i1 : (fd.length : Int) + d.length ≤ 3100 := by omega
  have w1 : IntKind.i64.wrap ((fd.length : Int) + d.length) = (fd.length : Int) + d.length := IntWalk.i64_in _ (by omega)
  have i2 : ¬ (c : Int) < 0 := by omega
  have i6 : ¬ (T.length : Int) = 0 := by omega
  have hk' := Nat.mod_lt c (show 0 < T.length by omega)
  rw [hk] at hk'
  have i9 : (k : Int) ≤ T.length := by omega
  have tl : (T.take k).length ≤ 1000000 := by rw [List.length_take]; omega
  clear lT
  go_enter Try.func11, Try.ntmps11
  go_wp2_with fail
  refine (putether_any x0 x1 x2 x3 x4 x5 y0 y1 y2 y3 y4 y5 ty fd _ (by omega)).mono ?_
  rw [hS, hE]
  rintro e w2 ⟨rfl, hF⟩
  have hBd := hF.blk (Blk.new (w.alloc (.cells #[.int .u8 x0, .int .u8 x1, .int .u8 x2, .int .u8 x3, .int .u8 x4, .int .u8 x5, .int .u8 y0, .int .u8 y1, .int .u8 y2, .int .u8 y3, .int .u8 y4, .int .u8 y5, .int .i64 ty, .string (B fd)] 43)) #[.int .i64 fr, .int .i64 to, .string (B d)] 45) (by simp)
  rw [show ∀ o, (w.alloc o).heap.size = w.heap.size + 1 from fun o => by simp] at hBd
  have hF0 := (((Fr.refl [] w).alloc _).alloc _).trans hF
  clear hF
  have hBe := hBd
  have d0 := hBe.c 0 _ rfl
  have d1 := hBe.c 1 _ rfl
  have d2 := hBe.c 2 _ rfl
  go_wp2_with fail
  refine (putgram_any fr to d _ (by omega)).mono ?_
  rw [hT, hG]
  rintro e w4 ⟨rfl, hF4⟩
  go_wp2_with fail
  refine (getgram_any _ _ tl).mono ?_
  rw [hgE, hgV]
  rintro e w5 ⟨rfl, hF5⟩
  have hBf := (hF5.blk (hF4.blk hBe (by simp)) (by simp)).alloc (.cells #[.int .i64 a, .int .i64 b, .string (B m)] 45)
  replace hF0 := ((hF0.trans hF4).trans hF5).alloc (.cells #[.int .i64 a, .int .i64 b, .string (B m)] 45)
  go_wp2_with fail
  refine (alive1 _).mono ?_
  rintro e w6 ⟨rfl, hF6⟩
  have hBg := hF6.blk hBf (by simp)
  have hBh := hF6.blk (Blk.new _ _ _) (by simp)
  have f0 := hBg.c 0 _ rfl
  have f1 := hBg.c 1 _ rfl
  have f2 := hBg.c 2 _ rfl
  have g0 := hBh.c 0 _ rfl
  have g1 := hBh.c 1 _ rfl
  have g2 := hBh.c 2 _ rfl
  go_wp2
  all_goals first | exact absurd (congrArg List.length (by assumption : m = d)) hm | (go_ret; exact ⟨rfl, (hF0.trans hF6).below (Nat.le_refl _) (by simp)⟩)

set_option maxHeartbeats 1000000 in
theorem wireShort_BA (w : World) (x0 x1 x2 x3 x4 x5 y0 y1 y2 y3 y4 y5 ty : Int) (fd : List UInt8) (fr to : Int) (d : List UInt8) (c : Nat) (S T : List UInt8)
    (hS : ethL [x0, x1, x2, x3, x4, x5] [y0, y1, y2, y3, y4, y5] ty fd = S) (hT : graL fr to d = T) (hsum : fd.length + d.length ≤ 3100)
    (hE : ethE ty fd = 0) (lS : S.length = fd.length + 14) (hc : c < 14)
    (G : Int) (hG : graE fr to d = G) (hb2 : (G == 0) = false) :
    Calls Try.prog 11 #[.agg #[.int .u8 x0, .int .u8 x1, .int .u8 x2, .int .u8 x3, .int .u8 x4, .int .u8 x5, .int .u8 y0, .int .u8 y1, .int .u8 y2, .int .u8 y3, .int .u8 y4, .int .u8 y5, .int .i64 ty, .string (B fd)], .agg #[.int .i64 fr, .int .i64 to, .string (B d)], .int .i64 c] w
      fun e w' => e = .returned (.bool true) ∧ Below w.heap.size w w' := by
  have i1 : (fd.length : Int) + d.length ≤ 3100 := by omega
  have w1 : IntKind.i64.wrap ((fd.length : Int) + d.length) = (fd.length : Int) + d.length := IntWalk.i64_in _ (by omega)
  have i2 : ¬ (c : Int) < 0 := by omega
  have i4 : ¬ (S.length : Int) < 14 := by omega
  have i3 : (c : Int) < 14 := by omega
  have i5 : (c : Int) ≤ S.length := by omega
  have sl : (S.take c).length < 14 := by rw [List.length_take]; omega
  clear lS
  go_enter Try.func11, Try.ntmps11
  go_wp2_with fail
  refine (putether_any x0 x1 x2 x3 x4 x5 y0 y1 y2 y3 y4 y5 ty fd _ (by omega)).mono ?_
  rw [hS, hE]
  rintro e w2 ⟨rfl, hF⟩
  have hBd := hF.blk (Blk.new (w.alloc (.cells #[.int .u8 x0, .int .u8 x1, .int .u8 x2, .int .u8 x3, .int .u8 x4, .int .u8 x5, .int .u8 y0, .int .u8 y1, .int .u8 y2, .int .u8 y3, .int .u8 y4, .int .u8 y5, .int .i64 ty, .string (B fd)] 43)) #[.int .i64 fr, .int .i64 to, .string (B d)] 45) (by simp)
  rw [show ∀ o, (w.alloc o).heap.size = w.heap.size + 1 from fun o => by simp] at hBd
  have hF0 := (((Fr.refl [] w).alloc _).alloc _).trans hF
  clear hF
  go_wp2_with fail
  refine (getether_short _ _ sl).mono ?_
  unfold eth0
  rintro e w3 ⟨rfl, hF3⟩
  replace hBd := hF3.blk hBd (by simp)
  have hBe := hBd.alloc (.cells #[.int .u8 0, .int .u8 0, .int .u8 0, .int .u8 0, .int .u8 0, .int .u8 0, .int .u8 0, .int .u8 0, .int .u8 0, .int .u8 0, .int .u8 0, .int .u8 0, .int .i64 0, .string ⟨#[]⟩] 43)
  replace hF0 := (hF0.trans hF3).alloc (.cells #[.int .u8 0, .int .u8 0, .int .u8 0, .int .u8 0, .int .u8 0, .int .u8 0, .int .u8 0, .int .u8 0, .int .u8 0, .int .u8 0, .int .u8 0, .int .u8 0, .int .i64 0, .string ⟨#[]⟩] 43)
  clear hF3
  have d0 := hBe.c 0 _ rfl
  have d1 := hBe.c 1 _ rfl
  have d2 := hBe.c 2 _ rfl
  go_wp2_with fail
  refine (putgram_any fr to d _ (by omega)).mono ?_
  rw [hT, hG]
  rintro e w4 ⟨rfl, hF4⟩
  go_wp2_with fail
  refine (alive1 _).mono ?_
  rintro e w6 ⟨rfl, hF6⟩
  go_wp2
  go_ret
  exact ⟨rfl, ((hF0.trans hF4).trans hF6).below (Nat.le_refl _) (by simp)⟩

set_option maxHeartbeats 1000000 in
theorem wireShort_BB (w : World) (x0 x1 x2 x3 x4 x5 y0 y1 y2 y3 y4 y5 ty : Int) (fd : List UInt8) (fr to : Int) (d : List UInt8) (c : Nat) (S T : List UInt8)
    (hS : ethL [x0, x1, x2, x3, x4, x5] [y0, y1, y2, y3, y4, y5] ty fd = S) (hT : graL fr to d = T) (hsum : fd.length + d.length ≤ 3100)
    (hE : ethE ty fd = 0) (lS : S.length = fd.length + 14) (hc : c < 14)
    (hG : graE fr to d = 0) (lT : T.length = d.length + 8) (k : Nat) (hk : c % T.length = k)
    (H : Int) (hgE : gmE (T.take k) = H) (hb3 : (H == 0) = false) (m : List UInt8) (a b : Int) (hgV : gmV (T.take k) = .agg #[.int .i64 a, .int .i64 b, .string (B m)]) :
    Calls Try.prog 11 #[.agg #[.int .u8 x0, .int .u8 x1, .int .u8 x2, .int .u8 x3, .int .u8 x4, .int .u8 x5, .int .u8 y0, .int .u8 y1, .int .u8 y2, .int .u8 y3, .int .u8 y4, .int .u8 y5, .int .i64 ty, .string (B fd)], .agg #[.int .i64 fr, .int .i64 to, .string (B d)], .int .i64 c] w
      fun e w' => e = .returned (.bool true) ∧ Below w.heap.size w w' := by
  have i1 : (fd.length : Int) + d.length ≤ 3100 := by omega
  have w1 : IntKind.i64.wrap ((fd.length : Int) + d.length) = (fd.length : Int) + d.length := IntWalk.i64_in _ (by omega)
  have i2 : ¬ (c : Int) < 0 := by omega
  have i4 : ¬ (S.length : Int) < 14 := by omega
  have i3 : (c : Int) < 14 := by omega
  have i5 : (c : Int) ≤ S.length := by omega
  have sl : (S.take c).length < 14 := by rw [List.length_take]; omega
  have i6 : ¬ (T.length : Int) = 0 := by omega
  have hk' := Nat.mod_lt c (show 0 < T.length by omega)
  rw [hk] at hk'
  have i9 : (k : Int) ≤ T.length := by omega
  have tl : (T.take k).length ≤ 1000000 := by rw [List.length_take]; omega
  clear lS lT
  go_enter Try.func11, Try.ntmps11
  go_wp2_with fail
  refine (putether_any x0 x1 x2 x3 x4 x5 y0 y1 y2 y3 y4 y5 ty fd _ (by omega)).mono ?_
  rw [hS, hE]
  rintro e w2 ⟨rfl, hF⟩
  have hBd := hF.blk (Blk.new (w.alloc (.cells #[.int .u8 x0, .int .u8 x1, .int .u8 x2, .int .u8 x3, .int .u8 x4, .int .u8 x5, .int .u8 y0, .int .u8 y1, .int .u8 y2, .int .u8 y3, .int .u8 y4, .int .u8 y5, .int .i64 ty, .string (B fd)] 43)) #[.int .i64 fr, .int .i64 to, .string (B d)] 45) (by simp)
  rw [show ∀ o, (w.alloc o).heap.size = w.heap.size + 1 from fun o => by simp] at hBd
  have hF0 := (((Fr.refl [] w).alloc _).alloc _).trans hF
  clear hF
  go_wp2_with fail
  refine (getether_short _ _ sl).mono ?_
  unfold eth0
  rintro e w3 ⟨rfl, hF3⟩
  replace hBd := hF3.blk hBd (by simp)
  have hBe := hBd.alloc (.cells #[.int .u8 0, .int .u8 0, .int .u8 0, .int .u8 0, .int .u8 0, .int .u8 0, .int .u8 0, .int .u8 0, .int .u8 0, .int .u8 0, .int .u8 0, .int .u8 0, .int .i64 0, .string ⟨#[]⟩] 43)
  replace hF0 := (hF0.trans hF3).alloc (.cells #[.int .u8 0, .int .u8 0, .int .u8 0, .int .u8 0, .int .u8 0, .int .u8 0, .int .u8 0, .int .u8 0, .int .u8 0, .int .u8 0, .int .u8 0, .int .u8 0, .int .i64 0, .string ⟨#[]⟩] 43)
  clear hF3
  have d0 := hBe.c 0 _ rfl
  have d1 := hBe.c 1 _ rfl
  have d2 := hBe.c 2 _ rfl
  go_wp2_with fail
  refine (putgram_any fr to d _ (by omega)).mono ?_
  rw [hT, hG]
  rintro e w4 ⟨rfl, hF4⟩
  go_wp2_with fail
  refine (getgram_any _ _ tl).mono ?_
  rw [hgE, hgV]
  rintro e w5 ⟨rfl, hF5⟩
  have hBf := (hF5.blk (hF4.blk hBe (by simp)) (by simp)).alloc (.cells #[.int .i64 a, .int .i64 b, .string (B m)] 45)
  replace hF0 := ((hF0.trans hF4).trans hF5).alloc (.cells #[.int .i64 a, .int .i64 b, .string (B m)] 45)
  go_wp2_with fail
  refine (alive1 _).mono ?_
  rintro e w6 ⟨rfl, hF6⟩
  have hBg := hF6.blk hBf (by simp)
  have hBh := hF6.blk (Blk.new _ _ _) (by simp)
  have f0 := hBg.c 0 _ rfl
  have f1 := hBg.c 1 _ rfl
  have f2 := hBg.c 2 _ rfl
  have g0 := hBh.c 0 _ rfl
  have g1 := hBh.c 1 _ rfl
  have g2 := hBh.c 2 _ rfl
  go_wp2
  all_goals first | exact absurd hb3 (by rw [(by assumption : H = 0)]; decide) | (go_ret; exact ⟨rfl, (hF0.trans hF6).below (Nat.le_refl _) (by simp)⟩)

set_option maxHeartbeats 1000000 in
theorem wireShort_BC (w : World) (x0 x1 x2 x3 x4 x5 y0 y1 y2 y3 y4 y5 ty : Int) (fd : List UInt8) (fr to : Int) (d : List UInt8) (c : Nat) (S T : List UInt8)
    (hS : ethL [x0, x1, x2, x3, x4, x5] [y0, y1, y2, y3, y4, y5] ty fd = S) (hT : graL fr to d = T) (hsum : fd.length + d.length ≤ 3100)
    (hE : ethE ty fd = 0) (lS : S.length = fd.length + 14) (hc : c < 14)
    (hG : graE fr to d = 0) (lT : T.length = d.length + 8) (k : Nat) (hk : c % T.length = k)
    (m : List UInt8) (a b : Int) (hgE : gmE (T.take k) = 0) (hgV : gmV (T.take k) = .agg #[.int .i64 a, .int .i64 b, .string (B m)]) (hm : m.length ≠ d.length) :
    Calls Try.prog 11 #[.agg #[.int .u8 x0, .int .u8 x1, .int .u8 x2, .int .u8 x3, .int .u8 x4, .int .u8 x5, .int .u8 y0, .int .u8 y1, .int .u8 y2, .int .u8 y3, .int .u8 y4, .int .u8 y5, .int .i64 ty, .string (B fd)], .agg #[.int .i64 fr, .int .i64 to, .string (B d)], .int .i64 c] w
      fun e w' => e = .returned (.bool true) ∧ Below w.heap.size w w' := by
  have i1 : (fd.length : Int) + d.length ≤ 3100 := by omega
  have w1 : IntKind.i64.wrap ((fd.length : Int) + d.length) = (fd.length : Int) + d.length := IntWalk.i64_in _ (by omega)
  have i2 : ¬ (c : Int) < 0 := by omega
  have i4 : ¬ (S.length : Int) < 14 := by omega
  have i3 : (c : Int) < 14 := by omega
  have i5 : (c : Int) ≤ S.length := by omega
  have sl : (S.take c).length < 14 := by rw [List.length_take]; omega
  have i6 : ¬ (T.length : Int) = 0 := by omega
  have hk' := Nat.mod_lt c (show 0 < T.length by omega)
  rw [hk] at hk'
  have i9 : (k : Int) ≤ T.length := by omega
  have tl : (T.take k).length ≤ 1000000 := by rw [List.length_take]; omega
  clear lS lT
  go_enter Try.func11, Try.ntmps11
  go_wp2_with fail
  refine (putether_any x0 x1 x2 x3 x4 x5 y0 y1 y2 y3 y4 y5 ty fd _ (by omega)).mono ?_
  rw [hS, hE]
  rintro e w2 ⟨rfl, hF⟩
  have hBd := hF.blk (Blk.new (w.alloc (.cells #[.int .u8 x0, .int .u8 x1, .int .u8 x2, .int .u8 x3, .int .u8 x4, .int .u8 x5, .int .u8 y0, .int .u8 y1, .int .u8 y2, .int .u8 y3, .int .u8 y4, .int .u8 y5, .int .i64 ty, .string (B fd)] 43)) #[.int .i64 fr, .int .i64 to, .string (B d)] 45) (by simp)
  rw [show ∀ o, (w.alloc o).heap.size = w.heap.size + 1 from fun o => by simp] at hBd
  have hF0 := (((Fr.refl [] w).alloc _).alloc _).trans hF
  clear hF
  go_wp2_with fail
  refine (getether_short _ _ sl).mono ?_
  unfold eth0
  rintro e w3 ⟨rfl, hF3⟩
  replace hBd := hF3.blk hBd (by simp)
  have hBe := hBd.alloc (.cells #[.int .u8 0, .int .u8 0, .int .u8 0, .int .u8 0, .int .u8 0, .int .u8 0, .int .u8 0, .int .u8 0, .int .u8 0, .int .u8 0, .int .u8 0, .int .u8 0, .int .i64 0, .string ⟨#[]⟩] 43)
  replace hF0 := (hF0.trans hF3).alloc (.cells #[.int .u8 0, .int .u8 0, .int .u8 0, .int .u8 0, .int .u8 0, .int .u8 0, .int .u8 0, .int .u8 0, .int .u8 0, .int .u8 0, .int .u8 0, .int .u8 0, .int .i64 0, .string ⟨#[]⟩] 43)
  clear hF3
  have d0 := hBe.c 0 _ rfl
  have d1 := hBe.c 1 _ rfl
  have d2 := hBe.c 2 _ rfl
  go_wp2_with fail
  refine (putgram_any fr to d _ (by omega)).mono ?_
  rw [hT, hG]
  rintro e w4 ⟨rfl, hF4⟩
  go_wp2_with fail
  refine (getgram_any _ _ tl).mono ?_
  rw [hgE, hgV]
  rintro e w5 ⟨rfl, hF5⟩
  have hBf := (hF5.blk (hF4.blk hBe (by simp)) (by simp)).alloc (.cells #[.int .i64 a, .int .i64 b, .string (B m)] 45)
  replace hF0 := ((hF0.trans hF4).trans hF5).alloc (.cells #[.int .i64 a, .int .i64 b, .string (B m)] 45)
  go_wp2_with fail
  refine (alive1 _).mono ?_
  rintro e w6 ⟨rfl, hF6⟩
  have hBg := hF6.blk hBf (by simp)
  have hBh := hF6.blk (Blk.new _ _ _) (by simp)
  have f0 := hBg.c 0 _ rfl
  have f1 := hBg.c 1 _ rfl
  have f2 := hBg.c 2 _ rfl
  have g0 := hBh.c 0 _ rfl
  have g1 := hBh.c 1 _ rfl
  have g2 := hBh.c 2 _ rfl
  go_wp2
  all_goals first | exact absurd (congrArg List.length (by assumption : m = d)) hm | (go_ret; exact ⟨rfl, (hF0.trans hF6).below (Nat.le_refl _) (by simp)⟩)

set_option maxHeartbeats 1000000 in
theorem wireShort_CA (w : World) (x0 x1 x2 x3 x4 x5 y0 y1 y2 y3 y4 y5 ty : Int) (fd : List UInt8) (fr to : Int) (d : List UInt8) (c : Nat) (S T : List UInt8)
    (hS : ethL [x0, x1, x2, x3, x4, x5] [y0, y1, y2, y3, y4, y5] ty fd = S) (hT : graL fr to d = T) (hsum : fd.length + d.length ≤ 3100)
    (hE : ethE ty fd = 0) (lS : S.length = fd.length + 14) (hc : 14 ≤ c)
    (G : Int) (hG : graE fr to d = G) (hb2 : (G == 0) = false) :
    Calls Try.prog 11 #[.agg #[.int .u8 x0, .int .u8 x1, .int .u8 x2, .int .u8 x3, .int .u8 x4, .int .u8 x5, .int .u8 y0, .int .u8 y1, .int .u8 y2, .int .u8 y3, .int .u8 y4, .int .u8 y5, .int .i64 ty, .string (B fd)], .agg #[.int .i64 fr, .int .i64 to, .string (B d)], .int .i64 c] w
      fun e w' => e = .returned (.bool true) ∧ Below w.heap.size w w' := by
  have i1 : (fd.length : Int) + d.length ≤ 3100 := by omega
  have w1 : IntKind.i64.wrap ((fd.length : Int) + d.length) = (fd.length : Int) + d.length := IntWalk.i64_in _ (by omega)
  have i2 : ¬ (c : Int) < 0 := by omega
  have i4 : ¬ (S.length : Int) < 14 := by omega
  have i3 : ¬ (c : Int) < 14 := by omega
  clear lS
  go_enter Try.func11, Try.ntmps11
  go_wp2_with fail
  refine (putether_any x0 x1 x2 x3 x4 x5 y0 y1 y2 y3 y4 y5 ty fd _ (by omega)).mono ?_
  rw [hS, hE]
  rintro e w2 ⟨rfl, hF⟩
  have hBd := hF.blk (Blk.new (w.alloc (.cells #[.int .u8 x0, .int .u8 x1, .int .u8 x2, .int .u8 x3, .int .u8 x4, .int .u8 x5, .int .u8 y0, .int .u8 y1, .int .u8 y2, .int .u8 y3, .int .u8 y4, .int .u8 y5, .int .i64 ty, .string (B fd)] 43)) #[.int .i64 fr, .int .i64 to, .string (B d)] 45) (by simp)
  rw [show ∀ o, (w.alloc o).heap.size = w.heap.size + 1 from fun o => by simp] at hBd
  have hF0 := (((Fr.refl [] w).alloc _).alloc _).trans hF
  clear hF
  have hBe := hBd
  have d0 := hBe.c 0 _ rfl
  have d1 := hBe.c 1 _ rfl
  have d2 := hBe.c 2 _ rfl
  go_wp2_with fail
  refine (putgram_any fr to d _ (by omega)).mono ?_
  rw [hT, hG]
  rintro e w4 ⟨rfl, hF4⟩
  go_wp2_with fail
  refine (alive1 _).mono ?_
  rintro e w6 ⟨rfl, hF6⟩
  go_wp2
  go_ret
  exact ⟨rfl, ((hF0.trans hF4).trans hF6).below (Nat.le_refl _) (by simp)⟩

set_option maxHeartbeats 1000000 in
theorem wireShort_CB (w : World) (x0 x1 x2 x3 x4 x5 y0 y1 y2 y3 y4 y5 ty : Int) (fd : List UInt8) (fr to : Int) (d : List UInt8) (c : Nat) (S T : List UInt8)
    (hS : ethL [x0, x1, x2, x3, x4, x5] [y0, y1, y2, y3, y4, y5] ty fd = S) (hT : graL fr to d = T) (hsum : fd.length + d.length ≤ 3100)
    (hE : ethE ty fd = 0) (lS : S.length = fd.length + 14) (hc : 14 ≤ c)
    (hG : graE fr to d = 0) (lT : T.length = d.length + 8) (k : Nat) (hk : c % T.length = k)
    (H : Int) (hgE : gmE (T.take k) = H) (hb3 : (H == 0) = false) (m : List UInt8) (a b : Int) (hgV : gmV (T.take k) = .agg #[.int .i64 a, .int .i64 b, .string (B m)]) :
    Calls Try.prog 11 #[.agg #[.int .u8 x0, .int .u8 x1, .int .u8 x2, .int .u8 x3, .int .u8 x4, .int .u8 x5, .int .u8 y0, .int .u8 y1, .int .u8 y2, .int .u8 y3, .int .u8 y4, .int .u8 y5, .int .i64 ty, .string (B fd)], .agg #[.int .i64 fr, .int .i64 to, .string (B d)], .int .i64 c] w
      fun e w' => e = .returned (.bool true) ∧ Below w.heap.size w w' := by
  have i1 : (fd.length : Int) + d.length ≤ 3100 := by omega
  have w1 : IntKind.i64.wrap ((fd.length : Int) + d.length) = (fd.length : Int) + d.length := IntWalk.i64_in _ (by omega)
  have i2 : ¬ (c : Int) < 0 := by omega
  have i4 : ¬ (S.length : Int) < 14 := by omega
  have i3 : ¬ (c : Int) < 14 := by omega
  have i6 : ¬ (T.length : Int) = 0 := by omega
  have hk' := Nat.mod_lt c (show 0 < T.length by omega)
  rw [hk] at hk'
  have i9 : (k : Int) ≤ T.length := by omega
  have tl : (T.take k).length ≤ 1000000 := by rw [List.length_take]; omega
  clear lS lT
  go_enter Try.func11, Try.ntmps11
  go_wp2_with fail
  refine (putether_any x0 x1 x2 x3 x4 x5 y0 y1 y2 y3 y4 y5 ty fd _ (by omega)).mono ?_
  rw [hS, hE]
  rintro e w2 ⟨rfl, hF⟩
  have hBd := hF.blk (Blk.new (w.alloc (.cells #[.int .u8 x0, .int .u8 x1, .int .u8 x2, .int .u8 x3, .int .u8 x4, .int .u8 x5, .int .u8 y0, .int .u8 y1, .int .u8 y2, .int .u8 y3, .int .u8 y4, .int .u8 y5, .int .i64 ty, .string (B fd)] 43)) #[.int .i64 fr, .int .i64 to, .string (B d)] 45) (by simp)
  rw [show ∀ o, (w.alloc o).heap.size = w.heap.size + 1 from fun o => by simp] at hBd
  have hF0 := (((Fr.refl [] w).alloc _).alloc _).trans hF
  clear hF
  have hBe := hBd
  have d0 := hBe.c 0 _ rfl
  have d1 := hBe.c 1 _ rfl
  have d2 := hBe.c 2 _ rfl
  go_wp2_with fail
  refine (putgram_any fr to d _ (by omega)).mono ?_
  rw [hT, hG]
  rintro e w4 ⟨rfl, hF4⟩
  go_wp2_with fail
  refine (getgram_any _ _ tl).mono ?_
  rw [hgE, hgV]
  rintro e w5 ⟨rfl, hF5⟩
  have hBf := (hF5.blk (hF4.blk hBe (by simp)) (by simp)).alloc (.cells #[.int .i64 a, .int .i64 b, .string (B m)] 45)
  replace hF0 := ((hF0.trans hF4).trans hF5).alloc (.cells #[.int .i64 a, .int .i64 b, .string (B m)] 45)
  go_wp2_with fail
  refine (alive1 _).mono ?_
  rintro e w6 ⟨rfl, hF6⟩
  have hBg := hF6.blk hBf (by simp)
  have hBh := hF6.blk (Blk.new _ _ _) (by simp)
  have f0 := hBg.c 0 _ rfl
  have f1 := hBg.c 1 _ rfl
  have f2 := hBg.c 2 _ rfl
  have g0 := hBh.c 0 _ rfl
  have g1 := hBh.c 1 _ rfl
  have g2 := hBh.c 2 _ rfl
  go_wp2
  all_goals first | exact absurd hb3 (by rw [(by assumption : H = 0)]; decide) | (go_ret; exact ⟨rfl, (hF0.trans hF6).below (Nat.le_refl _) (by simp)⟩)

set_option maxHeartbeats 1000000 in
theorem wireShort_CC (w : World) (x0 x1 x2 x3 x4 x5 y0 y1 y2 y3 y4 y5 ty : Int) (fd : List UInt8) (fr to : Int) (d : List UInt8) (c : Nat) (S T : List UInt8)
    (hS : ethL [x0, x1, x2, x3, x4, x5] [y0, y1, y2, y3, y4, y5] ty fd = S) (hT : graL fr to d = T) (hsum : fd.length + d.length ≤ 3100)
    (hE : ethE ty fd = 0) (lS : S.length = fd.length + 14) (hc : 14 ≤ c)
    (hG : graE fr to d = 0) (lT : T.length = d.length + 8) (k : Nat) (hk : c % T.length = k)
    (m : List UInt8) (a b : Int) (hgE : gmE (T.take k) = 0) (hgV : gmV (T.take k) = .agg #[.int .i64 a, .int .i64 b, .string (B m)]) (hm : m.length ≠ d.length) :
    Calls Try.prog 11 #[.agg #[.int .u8 x0, .int .u8 x1, .int .u8 x2, .int .u8 x3, .int .u8 x4, .int .u8 x5, .int .u8 y0, .int .u8 y1, .int .u8 y2, .int .u8 y3, .int .u8 y4, .int .u8 y5, .int .i64 ty, .string (B fd)], .agg #[.int .i64 fr, .int .i64 to, .string (B d)], .int .i64 c] w
      fun e w' => e = .returned (.bool true) ∧ Below w.heap.size w w' := by
  have i1 : (fd.length : Int) + d.length ≤ 3100 := by omega
  have w1 : IntKind.i64.wrap ((fd.length : Int) + d.length) = (fd.length : Int) + d.length := IntWalk.i64_in _ (by omega)
  have i2 : ¬ (c : Int) < 0 := by omega
  have i4 : ¬ (S.length : Int) < 14 := by omega
  have i3 : ¬ (c : Int) < 14 := by omega
  have i6 : ¬ (T.length : Int) = 0 := by omega
  have hk' := Nat.mod_lt c (show 0 < T.length by omega)
  rw [hk] at hk'
  have i9 : (k : Int) ≤ T.length := by omega
  have tl : (T.take k).length ≤ 1000000 := by rw [List.length_take]; omega
  clear lS lT
  go_enter Try.func11, Try.ntmps11
  go_wp2_with fail
  refine (putether_any x0 x1 x2 x3 x4 x5 y0 y1 y2 y3 y4 y5 ty fd _ (by omega)).mono ?_
  rw [hS, hE]
  rintro e w2 ⟨rfl, hF⟩
  have hBd := hF.blk (Blk.new (w.alloc (.cells #[.int .u8 x0, .int .u8 x1, .int .u8 x2, .int .u8 x3, .int .u8 x4, .int .u8 x5, .int .u8 y0, .int .u8 y1, .int .u8 y2, .int .u8 y3, .int .u8 y4, .int .u8 y5, .int .i64 ty, .string (B fd)] 43)) #[.int .i64 fr, .int .i64 to, .string (B d)] 45) (by simp)
  rw [show ∀ o, (w.alloc o).heap.size = w.heap.size + 1 from fun o => by simp] at hBd
  have hF0 := (((Fr.refl [] w).alloc _).alloc _).trans hF
  clear hF
  have hBe := hBd
  have d0 := hBe.c 0 _ rfl
  have d1 := hBe.c 1 _ rfl
  have d2 := hBe.c 2 _ rfl
  go_wp2_with fail
  refine (putgram_any fr to d _ (by omega)).mono ?_
  rw [hT, hG]
  rintro e w4 ⟨rfl, hF4⟩
  go_wp2_with fail
  refine (getgram_any _ _ tl).mono ?_
  rw [hgE, hgV]
  rintro e w5 ⟨rfl, hF5⟩
  have hBf := (hF5.blk (hF4.blk hBe (by simp)) (by simp)).alloc (.cells #[.int .i64 a, .int .i64 b, .string (B m)] 45)
  replace hF0 := ((hF0.trans hF4).trans hF5).alloc (.cells #[.int .i64 a, .int .i64 b, .string (B m)] 45)
  go_wp2_with fail
  refine (alive1 _).mono ?_
  rintro e w6 ⟨rfl, hF6⟩
  have hBg := hF6.blk hBf (by simp)
  have hBh := hF6.blk (Blk.new _ _ _) (by simp)
  have f0 := hBg.c 0 _ rfl
  have f1 := hBg.c 1 _ rfl
  have f2 := hBg.c 2 _ rfl
  have g0 := hBh.c 0 _ rfl
  have g1 := hBh.c 1 _ rfl
  have g2 := hBh.c 2 _ rfl
  go_wp2
  all_goals first | exact absurd (congrArg List.length (by assumption : m = d)) hm | (go_ret; exact ⟨rfl, (hF0.trans hF6).below (Nat.le_refl _) (by simp)⟩)

theorem wireShort_long (w : World) (x0 x1 x2 x3 x4 x5 y0 y1 y2 y3 y4 y5 ty : Int) (fd : List UInt8) (fr to : Int) (d : List UInt8) (c : Int) (h : 3100 < fd.length + d.length) (h1 : fd.length ≤ 140737488351232) (h2 : d.length ≤ 140737488351232) :
    Calls Try.prog 11 #[.agg #[.int .u8 x0, .int .u8 x1, .int .u8 x2, .int .u8 x3, .int .u8 x4, .int .u8 x5, .int .u8 y0, .int .u8 y1, .int .u8 y2, .int .u8 y3, .int .u8 y4, .int .u8 y5, .int .i64 ty, .string (B fd)], .agg #[.int .i64 fr, .int .i64 to, .string (B d)], .int .i64 c] w
      fun e w' => e = .returned (.bool true) ∧ Below w.heap.size w w' := by
  have i1 : (3100 : Int) < (fd.length : Int) + d.length := by omega
  have w1 : IntKind.i64.wrap ((fd.length : Int) + d.length) = (fd.length : Int) + d.length := IntWalk.i64_in _ (by omega)
  go_enter Try.func11, Try.ntmps11
  go_wp2_with fail
  refine (alive1 _).mono ?_
  rintro e w6 ⟨rfl, hF6⟩
  go_wp2
  go_ret
  exact ⟨rfl, ((((Fr.refl [] w).alloc _).alloc _).trans hF6).below (Nat.le_refl _) (by simp)⟩

theorem wireShort_neg (w : World) (x0 x1 x2 x3 x4 x5 y0 y1 y2 y3 y4 y5 ty : Int) (fd : List UInt8) (fr to : Int) (d : List UInt8) (c : Int) (h : fd.length + d.length ≤ 3100) (h2 : c < 0) :
    Calls Try.prog 11 #[.agg #[.int .u8 x0, .int .u8 x1, .int .u8 x2, .int .u8 x3, .int .u8 x4, .int .u8 x5, .int .u8 y0, .int .u8 y1, .int .u8 y2, .int .u8 y3, .int .u8 y4, .int .u8 y5, .int .i64 ty, .string (B fd)], .agg #[.int .i64 fr, .int .i64 to, .string (B d)], .int .i64 c] w
      fun e w' => e = .returned (.bool true) ∧ Below w.heap.size w w' := by
  have i1 : (fd.length : Int) + d.length ≤ 3100 := by omega
  have w1 : IntKind.i64.wrap ((fd.length : Int) + d.length) = (fd.length : Int) + d.length := IntWalk.i64_in _ (by omega)
  go_enter Try.func11, Try.ntmps11
  go_wp2_with fail
  refine (alive1 _).mono ?_
  rintro e w6 ⟨rfl, hF6⟩
  go_wp2
  go_ret
  exact ⟨rfl, ((((Fr.refl [] w).alloc _).alloc _).trans hF6).below (Nat.le_refl _) (by simp)⟩

theorem gmV_zero (l : List UInt8) (h : gmE l ≠ 0) : gmV l = .agg #[.int .i64 0, .int .i64 0, .string ⟨#[]⟩] := by unfold gmV; rw [if_neg h]; rfl
theorem gmV_ok (l : List UInt8) (h : gmE l = 0) : gmV l = .agg #[.int .i64 (getV (unsL l) 0 2), .int .i64 (getV (unsL l) 2 2), .string (B ((unsL l).drop 6))] := by unfold gmV; rw [if_pos h]
theorem wireShort_walk (w : World) (x0 x1 x2 x3 x4 x5 y0 y1 y2 y3 y4 y5 ty : Int) (s : ByteArray) (hs : s.size ≤ 140737488351232) (fr to : Int) (t : ByteArray) (ht : t.size ≤ 140737488351232) (c : Int) (_ : -9223372036854775808 ≤ c) (_ : c ≤ 9223372036854775807) :
    Calls Try.prog 11 #[.agg #[.int .u8 x0, .int .u8 x1, .int .u8 x2, .int .u8 x3, .int .u8 x4, .int .u8 x5, .int .u8 y0, .int .u8 y1, .int .u8 y2, .int .u8 y3, .int .u8 y4, .int .u8 y5, .int .i64 ty, .string s], .agg #[.int .i64 fr, .int .i64 to, .string t], .int .i64 c] w
      fun e w' => e = .returned (.bool true) ∧ Below w.heap.size w w' := by
  obtain ⟨fd, rfl⟩ : ∃ l, s = B l := ⟨_, B_of s⟩
  obtain ⟨d, rfl⟩ : ∃ l, t = B l := ⟨_, B_of t⟩
  rw [B_size] at hs ht
  by_cases h1 : 3100 < fd.length + d.length
  · exact wireShort_long w x0 x1 x2 x3 x4 x5 y0 y1 y2 y3 y4 y5 ty fd fr to d c h1 hs ht
  have h1' : fd.length + d.length ≤ 3100 := by omega
  by_cases h2 : c < 0
  · exact wireShort_neg w x0 x1 x2 x3 x4 x5 y0 y1 y2 y3 y4 y5 ty fd fr to d c h1' h2
  obtain ⟨c, rfl⟩ : ∃ n : Nat, c = n := ⟨c.toNat, by omega⟩
  obtain ⟨S, hS⟩ : ∃ S, ethL [x0, x1, x2, x3, x4, x5] [y0, y1, y2, y3, y4, y5] ty fd = S := ⟨_, rfl⟩
  obtain ⟨T, hT⟩ : ∃ T, graL fr to d = T := ⟨_, rfl⟩
  have bn : ∀ n : Int, n ≠ 0 → (n == 0) = false := fun n h => by rw [beq_eq_false_iff_ne]; exact h
  have lT : graE fr to d = 0 → T.length = d.length + 8 := fun h => by rw [← hT]; exact graL_length fr to d h
  have lS : ethE ty fd = 0 → S.length = fd.length + 14 := fun h => by rw [← hS]; exact ethL_length _ _ ty fd h rfl rfl
  by_cases hE : ethE ty fd = 0
  case neg =>
    by_cases hG : graE fr to d = 0
    case neg => exact wireShort_AA w x0 x1 x2 x3 x4 x5 y0 y1 y2 y3 y4 y5 ty fd fr to d c S T hS hT h1' _ rfl (bn _ hE) _ rfl (bn _ hG)
    case pos =>
    by_cases hg : gmE (T.take (c % T.length)) = 0
    case neg => exact wireShort_AB w x0 x1 x2 x3 x4 x5 y0 y1 y2 y3 y4 y5 ty fd fr to d c S T hS hT h1' _ rfl (bn _ hE) hG (lT hG) _ rfl _ rfl (bn _ hg) [] 0 0 (gmV_zero _ hg)
    case pos => exact wireShort_AC w x0 x1 x2 x3 x4 x5 y0 y1 y2 y3 y4 y5 ty fd fr to d c S T hS hT h1' _ rfl (bn _ hE) hG (lT hG) _ rfl _ _ _ hg (gmV_ok _ hg) (gm_short _ d hg (by rw [List.length_take]; have := Nat.mod_lt c (show 0 < T.length by rw [lT hG]; omega); have := lT hG; omega))
  case pos =>
    by_cases hc : c < 14
    case pos =>
      by_cases hG : graE fr to d = 0
      case neg => exact wireShort_BA w x0 x1 x2 x3 x4 x5 y0 y1 y2 y3 y4 y5 ty fd fr to d c S T hS hT h1' hE (lS hE) hc _ rfl (bn _ hG)
      case pos =>
      by_cases hg : gmE (T.take (c % T.length)) = 0
      case neg => exact wireShort_BB w x0 x1 x2 x3 x4 x5 y0 y1 y2 y3 y4 y5 ty fd fr to d c S T hS hT h1' hE (lS hE) hc hG (lT hG) _ rfl _ rfl (bn _ hg) [] 0 0 (gmV_zero _ hg)
      case pos => exact wireShort_BC w x0 x1 x2 x3 x4 x5 y0 y1 y2 y3 y4 y5 ty fd fr to d c S T hS hT h1' hE (lS hE) hc hG (lT hG) _ rfl _ _ _ hg (gmV_ok _ hg) (gm_short _ d hg (by rw [List.length_take]; have := Nat.mod_lt c (show 0 < T.length by rw [lT hG]; omega); have := lT hG; omega))
    case neg =>
      by_cases hG : graE fr to d = 0
      case neg => exact wireShort_CA w x0 x1 x2 x3 x4 x5 y0 y1 y2 y3 y4 y5 ty fd fr to d c S T hS hT h1' hE (lS hE) (by omega) _ rfl (bn _ hG)
      case pos =>
      by_cases hg : gmE (T.take (c % T.length)) = 0
      case neg => exact wireShort_CB w x0 x1 x2 x3 x4 x5 y0 y1 y2 y3 y4 y5 ty fd fr to d c S T hS hT h1' hE (lS hE) (by omega) hG (lT hG) _ rfl _ rfl (bn _ hg) [] 0 0 (gmV_zero _ hg)
      case pos => exact wireShort_CC w x0 x1 x2 x3 x4 x5 y0 y1 y2 y3 y4 y5 ty fd fr to d c S T hS hT h1' hE (lS hE) (by omega) hG (lT hG) _ rfl _ _ _ hg (gmV_ok _ hg) (gm_short _ d hg (by rw [List.length_take]; have := Nat.mod_lt c (show 0 < T.length by rw [lT hG]; omega); have := lT hG; omega))
end Go.Proofs.Ytmdgilhjiooalaa
