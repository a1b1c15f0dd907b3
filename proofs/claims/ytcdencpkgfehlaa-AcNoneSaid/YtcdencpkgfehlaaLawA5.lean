/- AcNone (printed by tools/gen_lawa5.py). -/
import Derived.Test.YtcdencpkgfehlaaAcN
import Derived.Test.YtcdencpkgfehlaaAcW
import Derived.Below
namespace Go.Proofs.Ytcdencpkgfehlaa
open Go.RowKit Go.Maps
set_option linter.unusedVariables false
set_option maxRecDepth 100000 in
set_option maxHeartbeats 16000000 in
theorem acNone_walk (w : World) (f : Et) (_ : True) (x : Idk) (_ : IdOk x) : Calls Try.prog 11 #[.agg (etC f), .agg (idC x)] w fun e w' => e = .returned (.bool true) ∧ Below w.heap.size w w' := by
  have AL := Lib.hid fun W => alive7 W
  have DN := Lib.hid fun (W : World) rv (h : NoneOf W rv) => cdata_none f h
  have TN := Lib.hid fun (W : World) rv (h : NoneOf W rv) => ctake_none f 0 h
  have FN := Lib.hid fun (W : World) rv (h : NoneOf W rv) => frame_none x h
  have CN := Lib.hid fun (W : World) rv (h : NoneOf W rv) => close_none x h
  have LN := Lib.hid fun (W : World) rv (h : NoneOf W rv) => live_none h
  have GN := Lib.hid fun (W : World) rv (h : NoneOf W rv) => gone_none h
  obtain ⟨⟨k1, k2, k3, k4, k5, k6⟩, ⟨s1, s2, s3, s4, s5, s6⟩, ty, d⟩ := f
  obtain ⟨⟨x1, x2, x3, x4, x5, x6⟩, xn⟩ := x
  unfold etC ethC at DN TN ⊢
  unfold idC idL mcL at FN CN ⊢
  simp only [List.cons_append, List.nil_append] at DN TN FN CN ⊢
  have hF := ((Fr.refl [] w).alloc (.cells #[.int .u8 k1, .int .u8 k2, .int .u8 k3, .int .u8 k4, .int .u8 k5, .int .u8 k6, .int .u8 s1, .int .u8 s2, .int .u8 s3, .int .u8 s4, .int .u8 s5, .int .u8 s6, .int .i64 ty, .string (B d)] 35 (0, 0))).alloc (.cells #[.int .u8 x1, .int .u8 x2, .int .u8 x3, .int .u8 x4, .int .u8 x5, .int .u8 x6, .int .i64 xn] 61 (0, 0))
  have hf := (Blk.new w #[.int .u8 k1, .int .u8 k2, .int .u8 k3, .int .u8 k4, .int .u8 k5, .int .u8 k6, .int .u8 s1, .int .u8 s2, .int .u8 s3, .int .u8 s4, .int .u8 s5, .int .u8 s6, .int .i64 ty, .string (B d)] 35).alloc (.cells #[.int .u8 x1, .int .u8 x2, .int .u8 x3, .int .u8 x4, .int .u8 x5, .int .u8 x6, .int .i64 xn] 61 (0, 0))
  have hx := Blk.new (w.alloc (.cells #[.int .u8 k1, .int .u8 k2, .int .u8 k3, .int .u8 k4, .int .u8 k5, .int .u8 k6, .int .u8 s1, .int .u8 s2, .int .u8 s3, .int .u8 s4, .int .u8 s5, .int .u8 s6, .int .i64 ty, .string (B d)] 35 (0, 0))) #[.int .u8 x1, .int .u8 x2, .int .u8 x3, .int .u8 x4, .int .u8 x5, .int .u8 x6, .int .i64 xn] 61
  rw [show (w.alloc (.cells #[.int .u8 k1, .int .u8 k2, .int .u8 k3, .int .u8 k4, .int .u8 k5, .int .u8 k6, .int .u8 s1, .int .u8 s2, .int .u8 s3, .int .u8 s4, .int .u8 s5, .int .u8 s6, .int .i64 ty, .string (B d)] 35 (0, 0))).heap.size = w.heap.size + 1 by simp] at hx
  obtain ⟨qf, hqf⟩ : ∃ q, w.heap.size = q := ⟨_, rfl⟩
  obtain ⟨qx, hqx⟩ : ∃ q, qf + 1 = q := ⟨_, rfl⟩
  obtain ⟨W2, hW2⟩ : ∃ W, (w.alloc (.cells #[.int .u8 k1, .int .u8 k2, .int .u8 k3, .int .u8 k4, .int .u8 k5, .int .u8 k6, .int .u8 s1, .int .u8 s2, .int .u8 s3, .int .u8 s4, .int .u8 s5, .int .u8 s6, .int .i64 ty, .string (B d)] 35 (0, 0))).alloc (.cells #[.int .u8 x1, .int .u8 x2, .int .u8 x3, .int .u8 x4, .int .u8 x5, .int .u8 x6, .int .i64 xn] 61 (0, 0)) = W := ⟨_, rfl⟩
  rw [hW2] at hF hf hx
  rw [hqf] at hf hx
  rw [hqx] at hx
  have f13 : W2.cell? ⟨qf, 13, none⟩ = some (.string (B d)) := hf.c 13 _ rfl
  by_cases hl : (3000 : Int) < d.length
  · go_enter Try.func11, Try.ntmps11
    go_wp2_with fail
    refine (AL.out _).mono ?_
    rintro e w1 ⟨rfl, hF1⟩
    have hF2 := hF.trans hF1
    clear hF
    go_wp2_with fail
    go_ret
    exact ⟨rfl, hF2.below (Nat.le_refl _) (by simp)⟩
  · have HFB := Lib.hid hF
    have HFF := Lib.hid hf
    have HXX := Lib.hid hx
    have hz := Blk.new W2 #[.int .u8 0, .int .u8 0, .int .u8 0, .int .u8 0, .int .u8 0, .int .u8 0, .string ⟨#[]⟩, .string ⟨#[]⟩, .slice none 0 0, .int .i64 0, .map none, .map none, .int .u16 0, .slice none 0 0] 85
    have hFz := (Fr.refl [] W2).alloc (.cells #[.int .u8 0, .int .u8 0, .int .u8 0, .int .u8 0, .int .u8 0, .int .u8 0, .string ⟨#[]⟩, .string ⟨#[]⟩, .slice none 0 0, .int .i64 0, .map none, .map none, .int .u16 0, .slice none 0 0] 85 (0, 0))
    obtain ⟨z, hzq⟩ : ∃ q, W2.heap.size = q := ⟨_, rfl⟩
    obtain ⟨W3, hW3⟩ : ∃ W, W2.alloc (.cells #[.int .u8 0, .int .u8 0, .int .u8 0, .int .u8 0, .int .u8 0, .int .u8 0, .string ⟨#[]⟩, .string ⟨#[]⟩, .slice none 0 0, .int .i64 0, .map none, .map none, .int .u16 0, .slice none 0 0] 85 (0, 0)) = W := ⟨_, rfl⟩
    rw [hW3] at hz hFz
    rw [hzq] at hz
    have HZ := Lib.hid hz
    have HFC : Hid (∀ W, Fr [] W3 W → W.cell? ⟨qf, 0, none⟩ = some (.int .u8 k1) ∧ W.cell? ⟨qf, 1, none⟩ = some (.int .u8 k2) ∧ W.cell? ⟨qf, 2, none⟩ = some (.int .u8 k3) ∧ W.cell? ⟨qf, 3, none⟩ = some (.int .u8 k4) ∧ W.cell? ⟨qf, 4, none⟩ = some (.int .u8 k5) ∧ W.cell? ⟨qf, 5, none⟩ = some (.int .u8 k6) ∧ W.cell? ⟨qf, 6, none⟩ = some (.int .u8 s1) ∧ W.cell? ⟨qf, 7, none⟩ = some (.int .u8 s2) ∧ W.cell? ⟨qf, 8, none⟩ = some (.int .u8 s3) ∧ W.cell? ⟨qf, 9, none⟩ = some (.int .u8 s4) ∧ W.cell? ⟨qf, 10, none⟩ = some (.int .u8 s5) ∧ W.cell? ⟨qf, 11, none⟩ = some (.int .u8 s6) ∧ W.cell? ⟨qf, 12, none⟩ = some (.int .i64 ty) ∧ W.cell? ⟨qf, 13, none⟩ = some (.string (B d))) := Lib.hid fun W hW => by
      have hf := (hFz.trans hW).blk HFF.out (by simp)
      exact ⟨hf.c 0 _ rfl, hf.c 1 _ rfl, hf.c 2 _ rfl, hf.c 3 _ rfl, hf.c 4 _ rfl, hf.c 5 _ rfl, hf.c 6 _ rfl, hf.c 7 _ rfl, hf.c 8 _ rfl, hf.c 9 _ rfl, hf.c 10 _ rfl, hf.c 11 _ rfl, hf.c 12 _ rfl, hf.c 13 _ rfl⟩
    have HXC : Hid (∀ W, Fr [] W3 W → W.cell? ⟨qx, 0, none⟩ = some (.int .u8 x1) ∧ W.cell? ⟨qx, 1, none⟩ = some (.int .u8 x2) ∧ W.cell? ⟨qx, 2, none⟩ = some (.int .u8 x3) ∧ W.cell? ⟨qx, 3, none⟩ = some (.int .u8 x4) ∧ W.cell? ⟨qx, 4, none⟩ = some (.int .u8 x5) ∧ W.cell? ⟨qx, 5, none⟩ = some (.int .u8 x6) ∧ W.cell? ⟨qx, 6, none⟩ = some (.int .i64 xn)) := Lib.hid fun W hW => by
      have hf := (hFz.trans hW).blk HXX.out (by simp)
      exact ⟨hf.c 0 _ rfl, hf.c 1 _ rfl, hf.c 2 _ rfl, hf.c 3 _ rfl, hf.c 4 _ rfl, hf.c 5 _ rfl, hf.c 6 _ rfl⟩
    have HNZ : Hid (∀ W, Fr [] W3 W → NoneOf W (.pointer (some ⟨z, 0, none⟩))) := Lib.hid fun W hW => none_zero (hW.blk HZ.out (by simp))
    have HFZ := Lib.hid (hF.trans hFz)
    obtain ⟨a0, a1, a2, a3, a4, a5, a6, a7, a8, a9, a10, a11, a12, a13⟩ := HFC.out W3 (Fr.refl _ _)
    clear hF hf hx hz hFz
    go_enter Try.func11, Try.ntmps11
    go_wp2_with fail
    refine (DN.out _ _ (none_nil _)).mono ?_
    rintro e w4 ⟨rfl, hF4⟩
    have hG4 := hF4.alloc (.cells #[.int .u8 0, .int .u8 0, .int .u8 0, .int .u8 0, .int .u8 0, .int .u8 0, .int .i64 0] 61 (0, 0))
    clear a0 a1 a2 a3 a4 a5 a6 a7 a8 a9 a10 a11 a12 a13 f13 hW2 hW3 hqf hqx hzq hF4
    obtain ⟨a0, a1, a2, a3, a4, a5, a6, a7, a8, a9, a10, a11, a12, a13⟩ := HFC.out _ hG4
    have HG4 := Lib.hid hG4
    clear hG4
    go_wp2_with fail
    refine (DN.out _ _ (HNZ.out _ HG4.out)).mono ?_
    rintro e w5 ⟨rfl, hF5⟩
    have HG5 := Lib.hid ((HG4.out.trans hF5).alloc (.cells #[.int .u8 0, .int .u8 0, .int .u8 0, .int .u8 0, .int .u8 0, .int .u8 0, .int .i64 0] 61 (0, 0)))
    clear a0 a1 a2 a3 a4 a5 a6 a7 a8 a9 a10 a11 a12 a13 hF5 DN HG4
    obtain ⟨b0, b1, b2, b3, b4, b5, b6⟩ := HXC.out _ HG5.out
    go_wp2_with fail
    refine (FN.out _ _ (none_nil _)).mono ?_
    rintro e w6 ⟨rfl, hF6⟩
    have HG6 := Lib.hid ((HG5.out.trans hF6).alloc (.cells #[.int .u8 0, .int .u8 0, .int .u8 0, .int .u8 0, .int .u8 0, .int .u8 0, .int .u8 0, .int .u8 0, .int .u8 0, .int .u8 0, .int .u8 0, .int .u8 0, .int .i64 0, .string ⟨#[]⟩] 35 (0, 0)))
    clear b0 b1 b2 b3 b4 b5 b6 hF6 FN HG5
    obtain ⟨b0, b1, b2, b3, b4, b5, b6⟩ := HXC.out _ HG6.out
    go_wp2_with fail
    refine (CN.out _ _ (HNZ.out _ HG6.out)).mono ?_
    rintro e w9 ⟨rfl, hF9⟩
    have HG9 := Lib.hid (HG6.out.trans hF9)
    clear b0 b1 b2 b3 b4 b5 b6 hF9 CN HG6
    go_wp2_with fail
    have HS : Hid (∀ W, Fr [] w9 W → (fun W => (W.cell? ⟨qf, 0, none⟩ = some (.int .u8 k1) ∧ W.cell? ⟨qf, 1, none⟩ = some (.int .u8 k2) ∧ W.cell? ⟨qf, 2, none⟩ = some (.int .u8 k3) ∧ W.cell? ⟨qf, 3, none⟩ = some (.int .u8 k4) ∧ W.cell? ⟨qf, 4, none⟩ = some (.int .u8 k5) ∧ W.cell? ⟨qf, 5, none⟩ = some (.int .u8 k6) ∧ W.cell? ⟨qf, 6, none⟩ = some (.int .u8 s1) ∧ W.cell? ⟨qf, 7, none⟩ = some (.int .u8 s2) ∧ W.cell? ⟨qf, 8, none⟩ = some (.int .u8 s3) ∧ W.cell? ⟨qf, 9, none⟩ = some (.int .u8 s4) ∧ W.cell? ⟨qf, 10, none⟩ = some (.int .u8 s5) ∧ W.cell? ⟨qf, 11, none⟩ = some (.int .u8 s6) ∧ W.cell? ⟨qf, 12, none⟩ = some (.int .i64 ty) ∧ W.cell? ⟨qf, 13, none⟩ = some (.string (B d))) ∧ Fr [] w9 W) W) := Lib.hid fun W hW => ⟨HFC.out W (HG9.out.trans hW), hW⟩
    have hG0 := HS.out _ (Fr.refl [] w9).drew
    dsimp only at hG0
    have N1 : Hid (∀ (rv : Value) W, rv = .pointer none → NoneOf W rv) := Lib.hid fun rv W h => h ▸ none_nil W
    have N2 : Hid (∀ (rv : Value) W, rv = .pointer (some ⟨z, 0, none⟩) → Fr [] w9 W → NoneOf W rv) := Lib.hid fun rv W h hW => h ▸ HNZ.out W (HG9.out.trans hW)
    go_region_held3 (fun W => (W.cell? ⟨qf, 0, none⟩ = some (.int .u8 k1) ∧ W.cell? ⟨qf, 1, none⟩ = some (.int .u8 k2) ∧ W.cell? ⟨qf, 2, none⟩ = some (.int .u8 k3) ∧ W.cell? ⟨qf, 3, none⟩ = some (.int .u8 k4) ∧ W.cell? ⟨qf, 4, none⟩ = some (.int .u8 k5) ∧ W.cell? ⟨qf, 5, none⟩ = some (.int .u8 k6) ∧ W.cell? ⟨qf, 6, none⟩ = some (.int .u8 s1) ∧ W.cell? ⟨qf, 7, none⟩ = some (.int .u8 s2) ∧ W.cell? ⟨qf, 8, none⟩ = some (.int .u8 s3) ∧ W.cell? ⟨qf, 9, none⟩ = some (.int .u8 s4) ∧ W.cell? ⟨qf, 10, none⟩ = some (.int .u8 s5) ∧ W.cell? ⟨qf, 11, none⟩ = some (.int .u8 s6) ∧ W.cell? ⟨qf, 12, none⟩ = some (.int .i64 ty) ∧ W.cell? ⟨qf, 13, none⟩ = some (.string (B d))) ∧ Fr [] w9 W)
      (first | exact hG0 | assumption | (refine HS.out _ (Fr.trans ?_ hFA); exact And.right (by assumption)))
      (first
        | (go_at_call 23; refine (AL.out _).mono ?_; rintro e wA ⟨rfl, hFA⟩)
        | (go_at_call 24; first | (refine (TN.out _ _ (N1.out _ _ (by with_reducible rfl))).mono ?_; rintro e wA ⟨rfl, hFA⟩) | (refine (TN.out _ _ (N2.out _ _ (by with_reducible rfl) (And.right (by assumption)))).mono ?_; rintro e wA ⟨rfl, hFA⟩))
        | (go_at_call 27; first | (refine (LN.out _ _ (N1.out _ _ (by with_reducible rfl))).mono ?_; rintro e wA ⟨rfl, hFA⟩) | (refine (LN.out _ _ (N2.out _ _ (by with_reducible rfl) (And.right (by assumption)))).mono ?_; rintro e wA ⟨rfl, hFA⟩))
        | (go_at_call 33; first | (refine (GN.out _ _ (N1.out _ _ (by with_reducible rfl))).mono ?_; rintro e wA ⟨rfl, hFA⟩) | (refine (GN.out _ _ (N2.out _ _ (by with_reducible rfl) (And.right (by assumption)))).mono ?_; rintro e wA ⟨rfl, hFA⟩)))
    all_goals
      have hFE := (HFZ.out.trans HG9.out).trans (And.right (by assumption))
      clear hG0 HS N1 N2 TN LN GN AL
      go_wp2_with fail
      go_ret
      exact ⟨rfl, hFE.below (Nat.le_refl _) (by simp)⟩
end Go.Proofs.Ytcdencpkgfehlaa
