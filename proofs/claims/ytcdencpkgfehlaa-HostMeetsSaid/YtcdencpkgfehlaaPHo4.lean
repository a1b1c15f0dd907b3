/- the program's host: Take of any frame (printed by tools/gen_pho4.py). -/
import Derived.Test.YtcdencpkgfehlaaPHo3
import Derived.Test.YtcdencpkgfehlaaHost9
namespace Go.Proofs.Ytcdencpkgfehlaa
open Go.RowKit
set_option linter.unusedVariables false
def etT (f : Et) : Eth := (f.k, f.m, f.ty, f.d)
section
variable {w : World} {g : Nat} {h : Hs} {ck : Value}
theorem pTake_none {p : Ps} {f : Eth} (h : readF p.1.m f = none) : pTake p f = (p, []) := by unfold pTake; rw [h]
theorem pTake_some {p : Ps} {f : Eth} {c ss : Int} {l : List Tg} (h : readF p.1.m f = some (c, ss, l)) : pTake p f = pGot p f.2.1 c ss l := by unfold pTake; rw [h]
theorem readF_no {m : Mc} {f : Eth} (h : ¬ (f.2.2.1 = 34915 ∧ mcEq f.1 m = true)) : readF m f = none := by unfold readF; rw [if_neg h]
theorem readF_pkt {m : Mc} {f : Eth} (h : f.2.2.1 = 34915 ∧ mcEq f.1 m = true) (hp : pkt f.2.2.2 = none) : readF m f = none := by unfold readF; rw [if_pos h, hp]
theorem readF_tags {m : Mc} {f : Eth} {c ss : Int} {d : List UInt8} (h : f.2.2.1 = 34915 ∧ mcEq f.1 m = true) (hp : pkt f.2.2.2 = some (c, ss, d)) (ht : tparse 20 d = none) : readF m f = none := by unfold readF; rw [if_pos h, hp]; simp only; rw [ht]; rfl
theorem readF_some {m : Mc} {f : Eth} {c ss : Int} {d : List UInt8} {l : List Tg} (h : f.2.2.1 = 34915 ∧ mcEq f.1 m = true) (hp : pkt f.2.2.2 = some (c, ss, d)) (ht : tparse 20 d = some l) : readF m f = some (c, ss, l) := by unfold readF; rw [if_pos h, hp]; simp only; rw [ht]; rfl
theorem PhIs.nil (o : Option (List UInt8)) (f : Et) (hw : h.wt ≠ 0) (hn : readF h.m (etT f) = none) (hB : Blk w g (hsC h ck) 92) (hc : CkV w o ck) (hx : Calls Try.prog 19 #[.pointer (some ⟨g, 0, none⟩), .agg (etC f)] w fun e w' => e = .returned (.slice none 0 0) ∧ Fr [] w w') :
    Calls Try.prog 19 #[.pointer (some ⟨g, 0, none⟩), .agg (etC f)] w (POut w g (pTake (h, o) (etT f)).2 (pTake (h, o) (etT f)).1) := by
  rw [pTake_none (p := (h, o)) hn]
  refine hx.mono ?_
  rintro e w' ⟨rfl, hF⟩
  exact ⟨OutP.none_ (hF.mono (by simp)), ck, hF.blk hB (by simp), hc.fr hF (fun q hq => by cases hq)⟩
set_option maxRecDepth 100000 in
set_option maxHeartbeats 16000000 in
theorem take_mine (k s : Mc) (d0 : List UInt8) (o : Option (List UInt8)) (hi : HI (h, o)) (hd0 : d0.length ≤ 3000) (hkm : mcEq k h.m = true) (hB : Blk w g (hsC h ck) 92) (hck : CkV w o ck) :
    Calls Try.prog 19 #[.pointer (some ⟨g, 0, none⟩), .agg (etC ⟨k, s, 34915, d0⟩)] w (POut w g (pTake (h, o) (k, s, 34915, d0)).2 (pTake (h, o) (k, s, 34915, d0)).1) := by
  have NO := Lib.hid fun W (hW : Fr [] w W) => hnone_any (hW.blk hB (by simp))
  have hwt : (h.wt == 0) = false := by rw [beq_eq_false_iff_ne]; have := hi.wt.1; simp only at this; omega
  rw [hwt] at NO
  have heq : ∀ W, (Op.equalIn 10000 28 (.agg (mcL k).toArray) (.agg (mcL h.m).toArray)).run Try.prog W = .ok true W := fun W => by
    have h1 := eq_mac 9998 k h.m W
    rwa [hkm] at h1
  have heqk : ∀ W, (Op.equalIn 10000 28 (.agg (mcL s).toArray) (.agg (mcL h.k).toArray)).run Try.prog W = .ok (mcEq s h.k) W := fun W => eq_mac 9998 s h.k W
  have HKM := Lib.hid hkm
  have HI0 := Lib.hid hi
  have HBH := Lib.hid hB
  have HCK := Lib.hid hck
  have HD0 := Lib.hid hd0
  have hgl := hB.lt
  obtain ⟨kn, hkn⟩ : ∃ b, mcEq s h.k = b := ⟨_, rfl⟩
  rw [hkn] at heqk
  have HKN := Lib.hid hkn
  obtain ⟨k1, k2, k3, k4, k5, k6⟩ := k
  obtain ⟨s1, s2, s3, s4, s5, s6⟩ := s
  unfold mcL at heq heqk
  simp only at heq heqk
  have HEQK := Lib.hid heqk
  clear hi hB hck hd0 hkm hwt hkn heqk
  unfold etC ethC
  simp only
  have hF := (Fr.refl [] w).alloc (.cells #[.int .u8 k1, .int .u8 k2, .int .u8 k3, .int .u8 k4, .int .u8 k5, .int .u8 k6, .int .u8 s1, .int .u8 s2, .int .u8 s3, .int .u8 s4, .int .u8 s5, .int .u8 s6, .int .i64 34915, .string (B d0)] 35 (0, 0))
  have hN := Blk.new w #[.int .u8 k1, .int .u8 k2, .int .u8 k3, .int .u8 k4, .int .u8 k5, .int .u8 k6, .int .u8 s1, .int .u8 s2, .int .u8 s3, .int .u8 s4, .int .u8 s5, .int .u8 s6, .int .i64 34915, .string (B d0)] 35
  go_enter Try.func19, Try.ntmps19
  go_wp2_with fail
  obtain ⟨q, hq⟩ : ∃ q, w.heap.size = q := ⟨_, rfl⟩
  obtain ⟨W3, hW3⟩ : ∃ W, w.alloc (.cells #[.int .u8 k1, .int .u8 k2, .int .u8 k3, .int .u8 k4, .int .u8 k5, .int .u8 k6, .int .u8 s1, .int .u8 s2, .int .u8 s3, .int .u8 s4, .int .u8 s5, .int .u8 s6, .int .i64 34915, .string (B d0)] 35 (0, 0)) = W := ⟨_, rfl⟩
  rw [hq] at hN ⊢
  rw [hW3] at hN hF ⊢
  have HF3 := Lib.hid hF
  have HQN : Hid (∀ W, Fr [] W3 W → Blk W q #[.int .u8 k1, .int .u8 k2, .int .u8 k3, .int .u8 k4, .int .u8 k5, .int .u8 k6, .int .u8 s1, .int .u8 s2, .int .u8 s3, .int .u8 s4, .int .u8 s5, .int .u8 s6, .int .i64 34915, .string (B d0)] 35) := Lib.hid fun W hW => hW.blk hN (by simp)
  have HGB : Hid (∀ W, Fr [] W3 W → Blk W g (hsC h ck) 92) := Lib.hid fun W hW => (HF3.out.trans hW).blk HBH.out (by simp)
  have HX : Hid (∀ W, Fr [] W3 W → (fun W => (W.cell? ⟨q, 0, none⟩ = some (.int .u8 k1) ∧ W.cell? ⟨q, 1, none⟩ = some (.int .u8 k2) ∧ W.cell? ⟨q, 2, none⟩ = some (.int .u8 k3) ∧ W.cell? ⟨q, 3, none⟩ = some (.int .u8 k4) ∧ W.cell? ⟨q, 4, none⟩ = some (.int .u8 k5) ∧ W.cell? ⟨q, 5, none⟩ = some (.int .u8 k6) ∧ W.cell? ⟨q, 12, none⟩ = some (.int .i64 34915) ∧ W.cell? ⟨g, 0, none⟩ = some (.int .u8 h.m.a) ∧ W.cell? ⟨g, 1, none⟩ = some (.int .u8 h.m.b) ∧ W.cell? ⟨g, 2, none⟩ = some (.int .u8 h.m.c) ∧ W.cell? ⟨g, 3, none⟩ = some (.int .u8 h.m.d) ∧ W.cell? ⟨g, 4, none⟩ = some (.int .u8 h.m.e) ∧ W.cell? ⟨g, 5, none⟩ = some (.int .u8 h.m.f)) ∧ Fr [] W3 W) W) := Lib.hid fun W hW => by
    have hb := HQN.out W hW
    have hh := HGB.out W hW
    exact ⟨⟨hb.c 0 _ rfl, hb.c 1 _ rfl, hb.c 2 _ rfl, hb.c 3 _ rfl, hb.c 4 _ rfl, hb.c 5 _ rfl, hb.c 12 _ rfl, hh.c 0 _ rfl, hh.c 1 _ rfl, hh.c 2 _ rfl, hh.c 3 _ rfl, hh.c 4 _ rfl, hh.c 5 _ rfl⟩, hW⟩
  have N2 := Lib.hid fun W (hW : Fr [] W3 W) => NO.out W (HF3.out.trans hW)
  clear hq hW3 hN hF NO
  refine wp_region_held_drew (S := (fun W => (W.cell? ⟨q, 0, none⟩ = some (.int .u8 k1) ∧ W.cell? ⟨q, 1, none⟩ = some (.int .u8 k2) ∧ W.cell? ⟨q, 2, none⟩ = some (.int .u8 k3) ∧ W.cell? ⟨q, 3, none⟩ = some (.int .u8 k4) ∧ W.cell? ⟨q, 4, none⟩ = some (.int .u8 k5) ∧ W.cell? ⟨q, 5, none⟩ = some (.int .u8 k6) ∧ W.cell? ⟨q, 12, none⟩ = some (.int .i64 34915) ∧ W.cell? ⟨g, 0, none⟩ = some (.int .u8 h.m.a) ∧ W.cell? ⟨g, 1, none⟩ = some (.int .u8 h.m.b) ∧ W.cell? ⟨g, 2, none⟩ = some (.int .u8 h.m.c) ∧ W.cell? ⟨g, 3, none⟩ = some (.int .u8 h.m.d) ∧ W.cell? ⟨g, 4, none⟩ = some (.int .u8 h.m.e) ∧ W.cell? ⟨g, 5, none⟩ = some (.int .u8 h.m.f)) ∧ Fr [] W3 W)) (by kernel_rfl) ?_ (fun hHeld => ?_)
  · (try dsimp only); exact HX.out _ (Fr.refl [] W3).drew
  refine take_yes 0 9 rfl rfl (by kernel_rfl) (by kernel_rfl) (by kernel_rfl) (fun _ _ _ h => h) (by rfl) (by assumption) (v := ?_) ?_ ?_
  rotate_left
  · intro w hSw; (try dsimp only at hSw); go_simp; (try with_reducible rfl)
  try simp only [Act.put, List.setIfInBounds_toArray, List.set_cons_zero, List.set_cons_succ]
  refine wpAnyH_ready (rs := [1]) (by kernel_rfl) (by simp) ?_
  refine AllReadyH.cons (o := _) rfl (fun K hK => ?_) AllReadyH.nil
  go_simp
  refine (N2.out _ (And.right (by assumption))).mono ?_
  rintro e w1 ⟨rfl, rfl⟩
  (try go_wp2_with fail)
  refine hK.out _ _ ?_ (fun hHeld => ?_)
  · (try dsimp only); assumption
  clear hK K
  try simp only [Act.put, List.setIfInBounds_toArray, List.set_cons_zero, List.set_cons_succ]
  refine take_yes 2 11 rfl rfl (by kernel_rfl) (by kernel_rfl) (by kernel_rfl) (fun _ _ _ h => h) (by rfl) (by assumption) (v := ?_) ?_ ?_
  rotate_left
  · intro w hSw; (try dsimp only at hSw); go_simp; (try with_reducible rfl)
  try simp only [Act.put, List.setIfInBounds_toArray, List.set_cons_zero, List.set_cons_succ]
  refine take_yes 3 12 rfl rfl (by kernel_rfl) (by kernel_rfl) (by kernel_rfl) (fun _ _ _ h => h) (by rfl) (by assumption) (v := ?_) ?_ ?_
  rotate_left
  · intro w hSw; (try dsimp only at hSw); go_simp; (try with_reducible rfl)
  try simp only [Act.put, List.setIfInBounds_toArray, List.set_cons_zero, List.set_cons_succ]
  refine take_yes 4 13 rfl rfl (by kernel_rfl) (by kernel_rfl) (by kernel_rfl) (fun _ _ _ h => h) (by rfl) (by assumption) (v := ?_) ?_ ?_
  rotate_left
  · intro w hSw; (try dsimp only at hSw); go_simp; (try with_reducible rfl)
  try simp only [Act.put, List.setIfInBounds_toArray, List.set_cons_zero, List.set_cons_succ]
  refine take_yes 5 14 rfl rfl (by kernel_rfl) (by kernel_rfl) (by kernel_rfl) (fun _ _ _ h => h) (by rfl) (by assumption) (v := ?_) ?_ ?_
  rotate_left
  · intro w hSw; (try dsimp only at hSw); go_simp; (try with_reducible rfl)
  try simp only [Act.put, List.setIfInBounds_toArray, List.set_cons_zero, List.set_cons_succ]
  refine take_yes 6 15 rfl rfl (by kernel_rfl) (by kernel_rfl) (by kernel_rfl) (fun _ _ _ h => h) (by rfl) (by assumption) (v := ?_) ?_ ?_
  rotate_left
  · intro w hSw; (try dsimp only at hSw); go_simp; (try with_reducible rfl)
  try simp only [Act.put, List.setIfInBounds_toArray, List.set_cons_zero, List.set_cons_succ]
  refine take_yes 7 16 rfl rfl (by kernel_rfl) (by kernel_rfl) (by kernel_rfl) (fun _ _ _ h => h) (by rfl) (by assumption) (v := ?_) ?_ ?_
  rotate_left
  · intro w hSw; (try dsimp only at hSw); go_simp; (try with_reducible rfl)
  try simp only [Act.put, List.setIfInBounds_toArray, List.set_cons_zero, List.set_cons_succ]
  refine take_yes 8 17 rfl rfl (by kernel_rfl) (by kernel_rfl) (by kernel_rfl) (fun _ _ _ h => h) (by rfl) (by assumption) (v := ?_) ?_ ?_
  rotate_left
  · intro w hSw; (try dsimp only at hSw); go_simp; (try with_reducible rfl)
  try simp only [Act.put, List.setIfInBounds_toArray, List.set_cons_zero, List.set_cons_succ]
  refine take_yes 9 18 rfl rfl (by kernel_rfl) (by kernel_rfl) (by kernel_rfl) (fun _ _ _ h => h) (by rfl) (by assumption) (v := ?_) ?_ ?_
  rotate_left
  · intro w hSw; (try dsimp only at hSw); go_simp; (try with_reducible rfl)
  try simp only [Act.put, List.setIfInBounds_toArray, List.set_cons_zero, List.set_cons_succ]
  refine take_yes 10 19 rfl rfl (by kernel_rfl) (by kernel_rfl) (by kernel_rfl) (fun _ _ _ h => h) (by rfl) (by assumption) (v := ?_) ?_ ?_
  rotate_left
  · intro w hSw; (try dsimp only at hSw); go_simp; (try with_reducible rfl)
  try simp only [Act.put, List.setIfInBounds_toArray, List.set_cons_zero, List.set_cons_succ]
  refine take_yes 11 20 rfl rfl (by kernel_rfl) (by kernel_rfl) (by kernel_rfl) (fun _ _ _ h => h) (by rfl) (by assumption) (v := ?_) ?_ ?_
  rotate_left
  · intro w hSw; (try dsimp only at hSw); go_simp; (try with_reducible rfl)
  try simp only [Act.put, List.setIfInBounds_toArray, List.set_cons_zero, List.set_cons_succ]
  refine take_yes 12 21 rfl rfl (by kernel_rfl) (by kernel_rfl) (by kernel_rfl) (fun _ _ _ h => h) (by rfl) (by assumption) (v := ?_) ?_ ?_
  rotate_left
  · intro w hSw; (try dsimp only at hSw); go_simp; (try with_reducible rfl)
  try simp only [Act.put, List.setIfInBounds_toArray, List.set_cons_zero, List.set_cons_succ]
  refine take_yes 13 22 rfl rfl (by kernel_rfl) (by kernel_rfl) (by kernel_rfl) (fun _ _ _ h => h) (by rfl) (by assumption) (v := ?_) ?_ ?_
  rotate_left
  · intro w hSw; (try dsimp only at hSw); go_simp; (try with_reducible rfl)
  try simp only [Act.put, List.setIfInBounds_toArray, List.set_cons_zero, List.set_cons_succ]
  refine take_yes 14 23 rfl rfl (by kernel_rfl) (by kernel_rfl) (by kernel_rfl) (fun _ _ _ h => h) (by rfl) (by assumption) (v := ?_) ?_ ?_
  rotate_left
  · intro w hSw; (try dsimp only at hSw); go_simp; (try with_reducible rfl)
  try simp only [Act.put, List.setIfInBounds_toArray, List.set_cons_zero, List.set_cons_succ]
  refine take_yes 15 24 rfl rfl (by kernel_rfl) (by kernel_rfl) (by kernel_rfl) (fun _ _ _ h => h) (by rfl) (by assumption) (v := ?_) ?_ ?_
  rotate_left
  · intro w hSw; (try dsimp only at hSw); go_simp; (try with_reducible rfl)
  try simp only [Act.put, List.setIfInBounds_toArray, List.set_cons_zero, List.set_cons_succ]
  refine wpAnyH_done (by kernel_rfl) ?_ _
  have HF4 := Lib.hid (show Fr [] W3 W3.drew from And.right (by assumption))
  obtain ⟨v4, hv4⟩ : ∃ V, W3.drew = V := ⟨_, rfl⟩
  rw [hv4] at HF4 ⊢
  clear hv4 heq HX N2
  have a13 : v4.cell? ⟨q, 13, none⟩ = some (.string (B d0)) := (HQN.out _ HF4.out).c 13 _ rfl
  cases hp : pkt d0 with
  | none =>
    have TG := Lib.hid fun W => tget_none (w := W) d0 HD0.out hp
    have HRF := Lib.hid (pTake_none (p := (h, o)) (readF_pkt (m := h.m) (f := (⟨k1, k2, k3, k4, k5, k6⟩, ⟨s1, s2, s3, s4, s5, s6⟩, 34915, d0)) ⟨rfl, HKM.out⟩ hp))
    clear hp
    go_wp2_with fail
    refine (TG.out _).mono ?_
    rintro e w5 ⟨x, hx, rfl, hF5⟩
    have hx2 : (x != 0) = true := by simpa using hx
    have HF6 := Lib.hid ((HF3.out.trans HF4.out).trans hF5)
    have HY : Hid (∀ W, Fr [] w5 W → POut w g (pTake (h, o) (⟨k1, k2, k3, k4, k5, k6⟩, ⟨s1, s2, s3, s4, s5, s6⟩, 34915, d0)).2 (pTake (h, o) (⟨k1, k2, k3, k4, k5, k6⟩, ⟨s1, s2, s3, s4, s5, s6⟩, 34915, d0)).1 (.returned (.slice none 0 0)) W) := Lib.hid fun W hW => by
      rw [HRF.out]
      exact ⟨OutP.none_ ((HF6.out.trans hW).mono (by simp)), ck, (HF6.out.trans hW).blk HBH.out (by simp), HCK.out.fr (HF6.out.trans hW) (fun q hq => by cases hq)⟩
    have HZ := Lib.hid (HY.out _ ((Fr.refl [] w5).alloc (.cells #[.int .i64 0, .int .i64 0, .string ⟨#[]⟩] 72 (0, 0))))
    clear hF5 TG HRF hx
    go_wp2_with fail
    go_ret
    exact HZ.out
  | some x =>
    obtain ⟨c, ss, d⟩ := x
    have TG := Lib.hid fun W => tget_some (w := W) d0 HD0.out hp
    have hdl : d.length ≤ 3000 := by obtain ⟨_, _, _, _, hh⟩ := pkt_some hp; omega
    have TT := Lib.hid fun W => gettags_any (w := W) d hdl
    have HP := Lib.hid hp
    clear hp hdl
    go_wp2_with fail
    refine (TG.out _).mono ?_
    rintro e w5 ⟨rfl, hF5⟩
    have hF6 := (HF4.out.trans hF5).alloc (.cells #[.int .i64 c, .int .i64 ss, .string (B d)] 72 (0, 0))
    have hD6 := Blk.new w5 #[.int .i64 c, .int .i64 ss, .string (B d)] 72
    have x2 : (w5.alloc (.cells #[.int .i64 c, .int .i64 ss, .string (B d)] 72 (0, 0))).cell? ⟨w5.heap.size, 2, none⟩ = some (.string (B d)) := hD6.c 2 _ rfl
    go_wp2_with fail
    obtain ⟨qd, hqd⟩ : ∃ x, w5.heap.size = x := ⟨_, rfl⟩
    obtain ⟨W6, hW6⟩ : ∃ x, w5.alloc (.cells #[.int .i64 c, .int .i64 ss, .string (B d)] 72 (0, 0)) = x := ⟨_, rfl⟩
    rw [hW6] at hF6 hD6 ⊢
    rw [hqd] at hD6 ⊢
    have HF6 := Lib.hid hF6
    have HD6 := Lib.hid hD6
    clear hF5 hqd hW6 TG a13 x2 hF6 hD6
    cases ht : tparse 20 d with
    | none =>
      rw [ht] at TT
      have HRF := Lib.hid (pTake_none (p := (h, o)) (readF_tags (m := h.m) (f := (⟨k1, k2, k3, k4, k5, k6⟩, ⟨s1, s2, s3, s4, s5, s6⟩, 34915, d0)) ⟨rfl, HKM.out⟩ HP.out ht))
      clear ht
      refine (TT.out _).mono ?_
      rintro e w7 ⟨x, hx, rfl, hF7⟩
      have hx2 : (x != 0) = true := by simpa using hx
      have HF7 := Lib.hid ((HF3.out.trans HF6.out).trans hF7)
      have HZ : Hid (POut w g (pTake (h, o) (⟨k1, k2, k3, k4, k5, k6⟩, ⟨s1, s2, s3, s4, s5, s6⟩, 34915, d0)).2 (pTake (h, o) (⟨k1, k2, k3, k4, k5, k6⟩, ⟨s1, s2, s3, s4, s5, s6⟩, 34915, d0)).1 (.returned (.slice none 0 0)) w7) := Lib.hid (by
        rw [HRF.out]
        exact ⟨OutP.none_ (HF7.out.mono (by simp)), ck, HF7.out.blk HBH.out (by simp), HCK.out.fr HF7.out (fun q hq => by cases hq)⟩)
      clear hF7 TT HRF hx
      go_wp2_with fail
      go_ret
      exact HZ.out
    | some l =>
      rw [ht] at TT
      have hRD := readF_some (m := h.m) (f := (⟨k1, k2, k3, k4, k5, k6⟩, ⟨s1, s2, s3, s4, s5, s6⟩, 34915, d0)) ⟨rfl, HKM.out⟩ HP.out ht
      have HPT := Lib.hid (pTake_some (p := (h, o)) hRD)
      have HBD := Lib.hid (readF_bd hRD)
      clear ht hRD
      refine (TT.out _).mono ?_
      rintro e w7 ⟨A, cap, rfl, hown7, hF7⟩
      have HF7 := Lib.hid (HF6.out.trans hF7)
      have HOWN := Lib.hid (rown_base hown7 (Nat.zero_le _))
      have HX : Hid (∀ W, Fr [] w7 W → (fun W => (W.cell? ⟨q, 6, none⟩ = some (.int .u8 s1) ∧ W.cell? ⟨q, 7, none⟩ = some (.int .u8 s2) ∧ W.cell? ⟨q, 8, none⟩ = some (.int .u8 s3) ∧ W.cell? ⟨q, 9, none⟩ = some (.int .u8 s4) ∧ W.cell? ⟨q, 10, none⟩ = some (.int .u8 s5) ∧ W.cell? ⟨q, 11, none⟩ = some (.int .u8 s6) ∧ W.cell? ⟨g, 11, none⟩ = some (.int .u8 h.k.a) ∧ W.cell? ⟨g, 12, none⟩ = some (.int .u8 h.k.b) ∧ W.cell? ⟨g, 13, none⟩ = some (.int .u8 h.k.c) ∧ W.cell? ⟨g, 14, none⟩ = some (.int .u8 h.k.d) ∧ W.cell? ⟨g, 15, none⟩ = some (.int .u8 h.k.e) ∧ W.cell? ⟨g, 16, none⟩ = some (.int .u8 h.k.f)) ∧ Fr [] w7 W) W) := Lib.hid fun W hW => by
        have hb := HQN.out W (HF7.out.trans hW)
        have hh := HGB.out W (HF7.out.trans hW)
        exact ⟨⟨hb.c 6 _ rfl, hb.c 7 _ rfl, hb.c 8 _ rfl, hb.c 9 _ rfl, hb.c 10 _ rfl, hb.c 11 _ rfl, hh.c 11 _ rfl, hh.c 12 _ rfl, hh.c 13 _ rfl, hh.c 14 _ rfl, hh.c 15 _ rfl, hh.c 16 _ rfl⟩, hW⟩
      have HD7 : Hid (∀ W, Fr [] w7 W → Blk W qd #[.int .i64 c, .int .i64 ss, .string (B d)] 72) := Lib.hid fun W hW => (hF7.trans hW).blk HD6.out (by simp)
      have heqk := HEQK.out
      clear hown7 hF7 TT HD6 HEQK
      go_wp2_with fail
      refine wp_region_held_drew (S := (fun W => (W.cell? ⟨q, 6, none⟩ = some (.int .u8 s1) ∧ W.cell? ⟨q, 7, none⟩ = some (.int .u8 s2) ∧ W.cell? ⟨q, 8, none⟩ = some (.int .u8 s3) ∧ W.cell? ⟨q, 9, none⟩ = some (.int .u8 s4) ∧ W.cell? ⟨q, 10, none⟩ = some (.int .u8 s5) ∧ W.cell? ⟨q, 11, none⟩ = some (.int .u8 s6) ∧ W.cell? ⟨g, 11, none⟩ = some (.int .u8 h.k.a) ∧ W.cell? ⟨g, 12, none⟩ = some (.int .u8 h.k.b) ∧ W.cell? ⟨g, 13, none⟩ = some (.int .u8 h.k.c) ∧ W.cell? ⟨g, 14, none⟩ = some (.int .u8 h.k.d) ∧ W.cell? ⟨g, 15, none⟩ = some (.int .u8 h.k.e) ∧ W.cell? ⟨g, 16, none⟩ = some (.int .u8 h.k.f)) ∧ Fr [] w7 W)) (by kernel_rfl) ?_ (fun hHeld => ?_)
      · (try dsimp only); exact HX.out _ (Fr.refl [] w7).drew
      refine take_yes 0 41 rfl rfl (by kernel_rfl) (by kernel_rfl) (by kernel_rfl) (fun _ _ _ h => h) (by rfl) (by assumption) (v := ?_) ?_ ?_
      rotate_left
      · intro w hSw; (try dsimp only at hSw); go_simp; (try with_reducible rfl)
      try simp only [Act.put, List.setIfInBounds_toArray, List.set_cons_zero, List.set_cons_succ]
      refine take_yes 1 42 rfl rfl (by kernel_rfl) (by kernel_rfl) (by kernel_rfl) (fun _ _ _ h => h) (by rfl) (by assumption) (v := .agg #[.int .u8 s1, .int .u8 s2, .int .u8 s3, .int .u8 s4, .int .u8 s5, .int .u8 s6]) ?_ ?_
      · intro w hSw; (try dsimp only at hSw); go_simp
      try simp only [Act.put, List.setIfInBounds_toArray, List.set_cons_zero, List.set_cons_succ]
      refine take_yes 2 43 rfl rfl (by kernel_rfl) (by kernel_rfl) (by kernel_rfl) (fun _ _ _ h => h) (by rfl) (by assumption) (v := ?_) ?_ ?_
      rotate_left
      · intro w hSw; (try dsimp only at hSw); go_simp; (try with_reducible rfl)
      try simp only [Act.put, List.setIfInBounds_toArray, List.set_cons_zero, List.set_cons_succ]
      refine take_yes 3 44 rfl rfl (by kernel_rfl) (by kernel_rfl) (by kernel_rfl) (fun _ _ _ h => h) (by rfl) (by assumption) (v := ?_) ?_ ?_
      rotate_left
      · intro w hSw; (try dsimp only at hSw); go_simp; (try with_reducible rfl)
      try simp only [Act.put, List.setIfInBounds_toArray, List.set_cons_zero, List.set_cons_succ]
      refine take_yes 4 45 rfl rfl (by kernel_rfl) (by kernel_rfl) (by kernel_rfl) (fun _ _ _ h => h) (by rfl) (by assumption) (v := ?_) ?_ ?_
      rotate_left
      · intro w hSw; (try dsimp only at hSw); go_simp; (try with_reducible rfl)
      try simp only [Act.put, List.setIfInBounds_toArray, List.set_cons_zero, List.set_cons_succ]
      refine take_yes 5 46 rfl rfl (by kernel_rfl) (by kernel_rfl) (by kernel_rfl) (fun _ _ _ h => h) (by rfl) (by assumption) (v := .agg #[.int .u8 h.k.a, .int .u8 h.k.b, .int .u8 h.k.c, .int .u8 h.k.d, .int .u8 h.k.e, .int .u8 h.k.f]) ?_ ?_
      · intro w hSw; (try dsimp only at hSw); go_simp
      try simp only [Act.put, List.setIfInBounds_toArray, List.set_cons_zero, List.set_cons_succ]
      refine take_yes 6 47 rfl rfl (by kernel_rfl) (by kernel_rfl) (by kernel_rfl) (fun _ _ _ h => h) (by rfl) (by assumption) (v := .bool kn) ?_ ?_
      · intro w hSw; (try dsimp only at hSw); go_simp
      try simp only [Act.put, List.setIfInBounds_toArray, List.set_cons_zero, List.set_cons_succ]
      refine take_yes 7 8 rfl rfl (by kernel_rfl) (by kernel_rfl) (by kernel_rfl) (fun _ _ _ h => h) (by rfl) (by assumption) (v := ?_) ?_ ?_
      rotate_left
      · intro w hSw; (try dsimp only at hSw); go_simp; (try with_reducible rfl)
      try simp only [Act.put, List.setIfInBounds_toArray, List.set_cons_zero, List.set_cons_succ]
      refine wpAnyH_done (by kernel_rfl) ?_ _
      have HF8a := Lib.hid (show Fr [] w7 w7.drew from And.right (by assumption))
      obtain ⟨w8, hw8⟩ : ∃ V, w7.drew = V := ⟨_, rfl⟩
      rw [hw8] at HF8a ⊢
      clear hw8 HX heqk
      have HF8 := Lib.hid (HF3.out.trans (HF7.out.trans HF8a.out))
      have HB8 : Hid (∀ W, Fr [] w8 W → Blk W g (hsC h ck) 92) := Lib.hid fun W hW => (HF8.out.trans hW).blk HBH.out (by simp)
      have HC8 : Hid (∀ W, Fr [] w8 W → CkV W o ck) := Lib.hid fun W hW => HCK.out.fr (HF8.out.trans hW) (fun q hq => by cases hq)
      have HPH : Hid (∀ W, Fr [] w8 W → PhIs W g (h, o)) := Lib.hid fun W hW => ⟨ck, HB8.out W hW, HC8.out W hW⟩
      have HD8 : Hid (∀ W, Fr [] w8 W → Blk W qd #[.int .i64 c, .int .i64 ss, .string (B d)] 72) := Lib.hid fun W hW => HD7.out W (HF8a.out.trans hW)
      have HQ8 : Hid (∀ W, Fr [] w8 W → Blk W q #[.int .u8 k1, .int .u8 k2, .int .u8 k3, .int .u8 k4, .int .u8 k5, .int .u8 k6, .int .u8 s1, .int .u8 s2, .int .u8 s3, .int .u8 s4, .int .u8 s5, .int .u8 s6, .int .i64 34915, .string (B d0)] 35) := Lib.hid fun W hW => HQN.out W (HF7.out.trans (HF8a.out.trans hW))
      have HOW8 : Hid (∀ W, Fr [] w8 W → W.ownsRow 0 54 2 (.slice A l.length cap) l.length (tgF l)) := Lib.hid fun W hW => rown_frS HOWN.out (HF8a.out.trans hW) (by simp)
      have HCX : Hid (∀ W, Fr [] w8 W → (fun W => (W.cell? ⟨g, 10, none⟩ = some (.int .i64 h.st) ∧ W.cell? ⟨g, 17, none⟩ = some (.int .i64 h.ss) ∧ W.cell? ⟨qd, 0, none⟩ = some (.int .i64 c) ∧ W.cell? ⟨qd, 1, none⟩ = some (.int .i64 ss)) ∧ Fr [] w8 W) W) := Lib.hid fun W hW => ⟨⟨(HB8.out W hW).c 10 _ rfl, (HB8.out W hW).c 17 _ rfl, (HD8.out W hW).c 0 _ rfl, (HD8.out W hW).c 1 _ rfl⟩, hW⟩
      have HPT : Hid (pTake (h, o) (⟨k1, k2, k3, k4, k5, k6⟩, ⟨s1, s2, s3, s4, s5, s6⟩, 34915, d0) = pGot (h, o) ⟨s1, s2, s3, s4, s5, s6⟩ c ss l) := HPT
      obtain ⟨⟨x10, x17, z0, z1⟩, _⟩ := HCX.out _ (Fr.refl [] w8)
      clear HF4 HF6 HF7 HF8a HQN HGB HD7 HOWN HF3
      by_cases h1 : h.st = 1
      · rw [h1] at x10
        by_cases hA : c = 7 ∧ ss = 0
        · have hc8 : (c == 7) = true := by simpa using hA.1
          have hs8 : (ss == 0) = true := by simpa using hA.2
          have HGT : Hid (pGot (h, o) ⟨s1, s2, s3, s4, s5, s6⟩ c ss l = if offB h.sv l = true ∧ mineB h.un l = true then (pChosen (h, o) ⟨s1, s2, s3, s4, s5, s6⟩ l, pSayL (pChosen (h, o) ⟨s1, s2, s3, s4, s5, s6⟩ l)) else ((h, o), [])) := Lib.hid (by unfold pGot; rw [if_pos ⟨h1, hA.1, hA.2⟩])
          have CH := Lib.hid (choose_any ⟨s1, s2, s3, s4, s5, s6⟩ o HI0.out (findS_len l 260 1494 HBD.out.2.2) (HOW8.out _ (Fr.refl [] w8)) HBD.out.2.1 (HB8.out _ (Fr.refl [] w8)) (HC8.out _ (Fr.refl [] w8)))
          unfold mcL at CH
          simp only at CH
          obtain ⟨L, hL⟩ : ∃ L, (if offB h.sv l = true ∧ mineB h.un l = true then pSayL (pChosen (h, o) ⟨s1, s2, s3, s4, s5, s6⟩ l) else []) = L := ⟨_, rfl⟩
          obtain ⟨P, hPc⟩ : ∃ P, (if offB h.sv l = true ∧ mineB h.un l = true then pChosen (h, o) ⟨s1, s2, s3, s4, s5, s6⟩ l else (h, o)) = P := ⟨_, rfl⟩
          rw [hL, hPc] at CH
          have HLP : Hid (pTake (h, o) (⟨k1, k2, k3, k4, k5, k6⟩, ⟨s1, s2, s3, s4, s5, s6⟩, 34915, d0) = (P, L)) := Lib.hid (by
            rw [HPT.out, HGT.out, ← hL, ← hPc]
            by_cases hcc : offB h.sv l = true ∧ mineB h.un l = true
            · rw [if_pos hcc, if_pos hcc, if_pos hcc]
            · rw [if_neg hcc, if_neg hcc, if_neg hcc])
          clear hL hPc HGT hA
          have hb := HQ8.out _ (Fr.refl [] w8)
          have b6 := hb.c 6 _ rfl
          have b7 := hb.c 7 _ rfl
          have b8 := hb.c 8 _ rfl
          have b9 := hb.c 9 _ rfl
          have b10 := hb.c 10 _ rfl
          have b11 := hb.c 11 _ rfl
          clear hb HBD HOW8 x17
          go_wp2_with fail
          refine CH.out.mono ?_
          rintro e w9 hP
          have HZ := Lib.hid (POut.later hP (HF8.out.mono (by simp)))
          obtain ⟨⟨A9, c9, rfl, _, _⟩, _⟩ := hP
          clear CH
          go_wp2_with fail
          go_ret
          rw [HLP.out]
          exact HZ.out
        · have hwhy : ¬ (h.st = 1 ∧ c = 7 ∧ ss = 0) := fun hh => hA hh.2
          have n2 : ¬ h.st = 2 := by omega
          have n3 : ¬ h.st = 3 := by omega
          by_cases hc7 : c = 7
          · have hs0 : (ss == 0) = false := by rw [beq_eq_false_iff_ne]; exact fun e => hA ⟨hc7, e⟩
            have hc8 : (c == 7) = true := by simpa using hc7
            clear hA hc7
            have HGT : Hid (pGot (h, o) ⟨s1, s2, s3, s4, s5, s6⟩ c ss l = ((h, o), [])) := Lib.hid (by unfold pGot; rw [if_neg hwhy, if_neg (fun hh => n2 hh.1), if_neg (fun hh => n3 hh.1)])
            have HX : Hid (∀ W, Fr [] w8 W → POut w g (pTake (h, o) (⟨k1, k2, k3, k4, k5, k6⟩, ⟨s1, s2, s3, s4, s5, s6⟩, 34915, d0)).2 (pTake (h, o) (⟨k1, k2, k3, k4, k5, k6⟩, ⟨s1, s2, s3, s4, s5, s6⟩, 34915, d0)).1 (.returned (.slice none 0 0)) W) := Lib.hid fun W hW => by rw [HPT.out, HGT.out]; exact ⟨OutP.none_ ((HF8.out.trans hW).mono (by simp)), HPH.out W hW⟩
            go_wp2_with fail
            refine wp_region_held_drew (S := (fun W => (W.cell? ⟨g, 10, none⟩ = some (.int .i64 h.st) ∧ W.cell? ⟨g, 17, none⟩ = some (.int .i64 h.ss) ∧ W.cell? ⟨qd, 0, none⟩ = some (.int .i64 c) ∧ W.cell? ⟨qd, 1, none⟩ = some (.int .i64 ss)) ∧ Fr [] w8 W)) (by kernel_rfl) ?_ (fun hHeld => ?_)
            · (try dsimp only); exact HCX.out _ (Fr.refl [] w8).drew
            refine take_yes 0 101 rfl rfl (by kernel_rfl) (by kernel_rfl) (by kernel_rfl) (fun _ _ _ h => h) (by rfl) (by assumption) (v := ?_) ?_ ?_
            rotate_left
            · intro w hSw; (try dsimp only at hSw); go_simp; (try with_reducible rfl)
            try simp only [Act.put, List.setIfInBounds_toArray, List.set_cons_zero, List.set_cons_succ]
            refine take_yes 1 102 rfl rfl (by kernel_rfl) (by kernel_rfl) (by kernel_rfl) (fun _ _ _ h => h) (by rfl) (by assumption) (v := ?_) ?_ ?_
            rotate_left
            · intro w hSw; (try dsimp only at hSw); go_simp; (try with_reducible rfl)
            try simp only [Act.put, List.setIfInBounds_toArray, List.set_cons_zero, List.set_cons_succ]
            refine take_yes 2 103 rfl rfl (by kernel_rfl) (by kernel_rfl) (by kernel_rfl) (fun _ _ _ h => h) (by rfl) (by assumption) (v := ?_) ?_ ?_
            rotate_left
            · intro w hSw; (try dsimp only at hSw); go_simp; (try with_reducible rfl)
            try simp only [Act.put, List.setIfInBounds_toArray, List.set_cons_zero, List.set_cons_succ]
            refine take_yes 3 104 rfl rfl (by kernel_rfl) (by kernel_rfl) (by kernel_rfl) (fun _ _ _ h => h) (by rfl) (by assumption) (v := ?_) ?_ ?_
            rotate_left
            · intro w hSw; (try dsimp only at hSw); go_simp; (try with_reducible rfl)
            try simp only [Act.put, List.setIfInBounds_toArray, List.set_cons_zero, List.set_cons_succ]
            refine take_yes 4 105 rfl rfl (by kernel_rfl) (by kernel_rfl) (by kernel_rfl) (fun _ _ _ h => h) (by rfl) (by assumption) (v := .bool false) ?_ ?_
            · intro w hSw; (try dsimp only at hSw); go_simp
            try simp only [Act.put, List.setIfInBounds_toArray, List.set_cons_zero, List.set_cons_succ]
            refine take_yes 5 106 rfl rfl (by kernel_rfl) (by kernel_rfl) (by kernel_rfl) (fun _ _ _ h => h) (by rfl) (by assumption) (v := ?_) ?_ ?_
            rotate_left
            · intro w hSw; (try dsimp only at hSw); go_simp; (try with_reducible rfl)
            try simp only [Act.put, List.setIfInBounds_toArray, List.set_cons_zero, List.set_cons_succ]
            refine take_no 6 107 rfl rfl (by kernel_rfl) (by kernel_rfl) (by kernel_rfl) (fun _ _ _ h => h) (by rfl) (by assumption) ?_
            try simp only [Act.put, List.setIfInBounds_toArray, List.set_cons_zero, List.set_cons_succ]
            refine take_no 7 108 rfl rfl (by kernel_rfl) (by kernel_rfl) (by kernel_rfl) (fun _ _ _ h => h) (by rfl) (by assumption) ?_
            try simp only [Act.put, List.setIfInBounds_toArray, List.set_cons_zero, List.set_cons_succ]
            refine take_no 8 109 rfl rfl (by kernel_rfl) (by kernel_rfl) (by kernel_rfl) (fun _ _ _ h => h) (by rfl) (by assumption) ?_
            try simp only [Act.put, List.setIfInBounds_toArray, List.set_cons_zero, List.set_cons_succ]
            refine take_yes 9 110 rfl rfl (by kernel_rfl) (by kernel_rfl) (by kernel_rfl) (fun _ _ _ h => h) (by rfl) (by assumption) (v := ?_) ?_ ?_
            rotate_left
            · intro w hSw; (try dsimp only at hSw); go_simp; (try with_reducible rfl)
            try simp only [Act.put, List.setIfInBounds_toArray, List.set_cons_zero, List.set_cons_succ]
            refine take_yes 10 111 rfl rfl (by kernel_rfl) (by kernel_rfl) (by kernel_rfl) (fun _ _ _ h => h) (by rfl) (by assumption) (v := ?_) ?_ ?_
            rotate_left
            · intro w hSw; (try dsimp only at hSw); go_simp; (try with_reducible rfl)
            try simp only [Act.put, List.setIfInBounds_toArray, List.set_cons_zero, List.set_cons_succ]
            refine take_no 11 112 rfl rfl (by kernel_rfl) (by kernel_rfl) (by kernel_rfl) (fun _ _ _ h => h) (by rfl) (by assumption) ?_
            try simp only [Act.put, List.setIfInBounds_toArray, List.set_cons_zero, List.set_cons_succ]
            refine take_yes 12 113 rfl rfl (by kernel_rfl) (by kernel_rfl) (by kernel_rfl) (fun _ _ _ h => h) (by rfl) (by assumption) (v := ?_) ?_ ?_
            rotate_left
            · intro w hSw; (try dsimp only at hSw); go_simp; (try with_reducible rfl)
            try simp only [Act.put, List.setIfInBounds_toArray, List.set_cons_zero, List.set_cons_succ]
            refine take_yes 13 114 rfl rfl (by kernel_rfl) (by kernel_rfl) (by kernel_rfl) (fun _ _ _ h => h) (by rfl) (by assumption) (v := ?_) ?_ ?_
            rotate_left
            · intro w hSw; (try dsimp only at hSw); go_simp; (try with_reducible rfl)
            try simp only [Act.put, List.setIfInBounds_toArray, List.set_cons_zero, List.set_cons_succ]
            refine take_no 14 115 rfl rfl (by kernel_rfl) (by kernel_rfl) (by kernel_rfl) (fun _ _ _ h => h) (by rfl) (by assumption) ?_
            try simp only [Act.put, List.setIfInBounds_toArray, List.set_cons_zero, List.set_cons_succ]
            refine take_no 15 116 rfl rfl (by kernel_rfl) (by kernel_rfl) (by kernel_rfl) (fun _ _ _ h => h) (by rfl) (by assumption) ?_
            try simp only [Act.put, List.setIfInBounds_toArray, List.set_cons_zero, List.set_cons_succ]
            refine take_no 16 117 rfl rfl (by kernel_rfl) (by kernel_rfl) (by kernel_rfl) (fun _ _ _ h => h) (by rfl) (by assumption) ?_
            try simp only [Act.put, List.setIfInBounds_toArray, List.set_cons_zero, List.set_cons_succ]
            refine take_no 17 118 rfl rfl (by kernel_rfl) (by kernel_rfl) (by kernel_rfl) (fun _ _ _ h => h) (by rfl) (by assumption) ?_
            try simp only [Act.put, List.setIfInBounds_toArray, List.set_cons_zero, List.set_cons_succ]
            refine take_no 18 119 rfl rfl (by kernel_rfl) (by kernel_rfl) (by kernel_rfl) (fun _ _ _ h => h) (by rfl) (by assumption) ?_
            try simp only [Act.put, List.setIfInBounds_toArray, List.set_cons_zero, List.set_cons_succ]
            refine take_no 19 120 rfl rfl (by kernel_rfl) (by kernel_rfl) (by kernel_rfl) (fun _ _ _ h => h) (by rfl) (by assumption) ?_
            try simp only [Act.put, List.setIfInBounds_toArray, List.set_cons_zero, List.set_cons_succ]
            refine take_no 20 121 rfl rfl (by kernel_rfl) (by kernel_rfl) (by kernel_rfl) (fun _ _ _ h => h) (by rfl) (by assumption) ?_
            try simp only [Act.put, List.setIfInBounds_toArray, List.set_cons_zero, List.set_cons_succ]
            refine take_yes 21 122 rfl rfl (by kernel_rfl) (by kernel_rfl) (by kernel_rfl) (fun _ _ _ h => h) (by rfl) (by assumption) (v := ?_) ?_ ?_
            rotate_left
            · intro w hSw; (try dsimp only at hSw); go_simp; (try with_reducible rfl)
            try simp only [Act.put, List.setIfInBounds_toArray, List.set_cons_zero, List.set_cons_succ]
            refine take_yes 22 100 rfl rfl (by kernel_rfl) (by kernel_rfl) (by kernel_rfl) (fun _ _ _ h => h) (by rfl) (by assumption) (v := ?_) ?_ ?_
            rotate_left
            · intro w hSw; (try dsimp only at hSw); go_simp; (try with_reducible rfl)
            try simp only [Act.put, List.setIfInBounds_toArray, List.set_cons_zero, List.set_cons_succ]
            refine wpAnyH_done (by kernel_rfl) ?_ _
            have HY := Lib.hid (HX.out _ (And.right (by assumption)))
            go_wp2_with fail
            go_ret
            exact HY.out
          · have hc8 : (c == 7) = false := by rw [beq_eq_false_iff_ne]; exact hc7
            clear hA hc7
            have HGT : Hid (pGot (h, o) ⟨s1, s2, s3, s4, s5, s6⟩ c ss l = ((h, o), [])) := Lib.hid (by unfold pGot; rw [if_neg hwhy, if_neg (fun hh => n2 hh.1), if_neg (fun hh => n3 hh.1)])
            have HX : Hid (∀ W, Fr [] w8 W → POut w g (pTake (h, o) (⟨k1, k2, k3, k4, k5, k6⟩, ⟨s1, s2, s3, s4, s5, s6⟩, 34915, d0)).2 (pTake (h, o) (⟨k1, k2, k3, k4, k5, k6⟩, ⟨s1, s2, s3, s4, s5, s6⟩, 34915, d0)).1 (.returned (.slice none 0 0)) W) := Lib.hid fun W hW => by rw [HPT.out, HGT.out]; exact ⟨OutP.none_ ((HF8.out.trans hW).mono (by simp)), HPH.out W hW⟩
            go_wp2_with fail
            refine wp_region_held_drew (S := (fun W => (W.cell? ⟨g, 10, none⟩ = some (.int .i64 h.st) ∧ W.cell? ⟨g, 17, none⟩ = some (.int .i64 h.ss) ∧ W.cell? ⟨qd, 0, none⟩ = some (.int .i64 c) ∧ W.cell? ⟨qd, 1, none⟩ = some (.int .i64 ss)) ∧ Fr [] w8 W)) (by kernel_rfl) ?_ (fun hHeld => ?_)
            · (try dsimp only); exact HCX.out _ (Fr.refl [] w8).drew
            refine take_yes 0 101 rfl rfl (by kernel_rfl) (by kernel_rfl) (by kernel_rfl) (fun _ _ _ h => h) (by rfl) (by assumption) (v := ?_) ?_ ?_
            rotate_left
            · intro w hSw; (try dsimp only at hSw); go_simp; (try with_reducible rfl)
            try simp only [Act.put, List.setIfInBounds_toArray, List.set_cons_zero, List.set_cons_succ]
            refine take_yes 1 102 rfl rfl (by kernel_rfl) (by kernel_rfl) (by kernel_rfl) (fun _ _ _ h => h) (by rfl) (by assumption) (v := ?_) ?_ ?_
            rotate_left
            · intro w hSw; (try dsimp only at hSw); go_simp; (try with_reducible rfl)
            try simp only [Act.put, List.setIfInBounds_toArray, List.set_cons_zero, List.set_cons_succ]
            refine take_yes 2 103 rfl rfl (by kernel_rfl) (by kernel_rfl) (by kernel_rfl) (fun _ _ _ h => h) (by rfl) (by assumption) (v := ?_) ?_ ?_
            rotate_left
            · intro w hSw; (try dsimp only at hSw); go_simp; (try with_reducible rfl)
            try simp only [Act.put, List.setIfInBounds_toArray, List.set_cons_zero, List.set_cons_succ]
            refine take_yes 3 104 rfl rfl (by kernel_rfl) (by kernel_rfl) (by kernel_rfl) (fun _ _ _ h => h) (by rfl) (by assumption) (v := ?_) ?_ ?_
            rotate_left
            · intro w hSw; (try dsimp only at hSw); go_simp; (try with_reducible rfl)
            try simp only [Act.put, List.setIfInBounds_toArray, List.set_cons_zero, List.set_cons_succ]
            refine take_yes 4 105 rfl rfl (by kernel_rfl) (by kernel_rfl) (by kernel_rfl) (fun _ _ _ h => h) (by rfl) (by assumption) (v := .bool false) ?_ ?_
            · intro w hSw; (try dsimp only at hSw); go_simp
            try simp only [Act.put, List.setIfInBounds_toArray, List.set_cons_zero, List.set_cons_succ]
            refine take_yes 5 106 rfl rfl (by kernel_rfl) (by kernel_rfl) (by kernel_rfl) (fun _ _ _ h => h) (by rfl) (by assumption) (v := ?_) ?_ ?_
            rotate_left
            · intro w hSw; (try dsimp only at hSw); go_simp; (try with_reducible rfl)
            try simp only [Act.put, List.setIfInBounds_toArray, List.set_cons_zero, List.set_cons_succ]
            refine take_no 6 107 rfl rfl (by kernel_rfl) (by kernel_rfl) (by kernel_rfl) (fun _ _ _ h => h) (by rfl) (by assumption) ?_
            try simp only [Act.put, List.setIfInBounds_toArray, List.set_cons_zero, List.set_cons_succ]
            refine take_no 7 108 rfl rfl (by kernel_rfl) (by kernel_rfl) (by kernel_rfl) (fun _ _ _ h => h) (by rfl) (by assumption) ?_
            try simp only [Act.put, List.setIfInBounds_toArray, List.set_cons_zero, List.set_cons_succ]
            refine take_no 8 109 rfl rfl (by kernel_rfl) (by kernel_rfl) (by kernel_rfl) (fun _ _ _ h => h) (by rfl) (by assumption) ?_
            try simp only [Act.put, List.setIfInBounds_toArray, List.set_cons_zero, List.set_cons_succ]
            refine take_yes 9 110 rfl rfl (by kernel_rfl) (by kernel_rfl) (by kernel_rfl) (fun _ _ _ h => h) (by rfl) (by assumption) (v := ?_) ?_ ?_
            rotate_left
            · intro w hSw; (try dsimp only at hSw); go_simp; (try with_reducible rfl)
            try simp only [Act.put, List.setIfInBounds_toArray, List.set_cons_zero, List.set_cons_succ]
            refine take_yes 10 111 rfl rfl (by kernel_rfl) (by kernel_rfl) (by kernel_rfl) (fun _ _ _ h => h) (by rfl) (by assumption) (v := ?_) ?_ ?_
            rotate_left
            · intro w hSw; (try dsimp only at hSw); go_simp; (try with_reducible rfl)
            try simp only [Act.put, List.setIfInBounds_toArray, List.set_cons_zero, List.set_cons_succ]
            refine take_no 11 112 rfl rfl (by kernel_rfl) (by kernel_rfl) (by kernel_rfl) (fun _ _ _ h => h) (by rfl) (by assumption) ?_
            try simp only [Act.put, List.setIfInBounds_toArray, List.set_cons_zero, List.set_cons_succ]
            refine take_yes 12 113 rfl rfl (by kernel_rfl) (by kernel_rfl) (by kernel_rfl) (fun _ _ _ h => h) (by rfl) (by assumption) (v := ?_) ?_ ?_
            rotate_left
            · intro w hSw; (try dsimp only at hSw); go_simp; (try with_reducible rfl)
            try simp only [Act.put, List.setIfInBounds_toArray, List.set_cons_zero, List.set_cons_succ]
            refine take_yes 13 114 rfl rfl (by kernel_rfl) (by kernel_rfl) (by kernel_rfl) (fun _ _ _ h => h) (by rfl) (by assumption) (v := ?_) ?_ ?_
            rotate_left
            · intro w hSw; (try dsimp only at hSw); go_simp; (try with_reducible rfl)
            try simp only [Act.put, List.setIfInBounds_toArray, List.set_cons_zero, List.set_cons_succ]
            refine take_no 14 115 rfl rfl (by kernel_rfl) (by kernel_rfl) (by kernel_rfl) (fun _ _ _ h => h) (by rfl) (by assumption) ?_
            try simp only [Act.put, List.setIfInBounds_toArray, List.set_cons_zero, List.set_cons_succ]
            refine take_no 15 116 rfl rfl (by kernel_rfl) (by kernel_rfl) (by kernel_rfl) (fun _ _ _ h => h) (by rfl) (by assumption) ?_
            try simp only [Act.put, List.setIfInBounds_toArray, List.set_cons_zero, List.set_cons_succ]
            refine take_no 16 117 rfl rfl (by kernel_rfl) (by kernel_rfl) (by kernel_rfl) (fun _ _ _ h => h) (by rfl) (by assumption) ?_
            try simp only [Act.put, List.setIfInBounds_toArray, List.set_cons_zero, List.set_cons_succ]
            refine take_no 17 118 rfl rfl (by kernel_rfl) (by kernel_rfl) (by kernel_rfl) (fun _ _ _ h => h) (by rfl) (by assumption) ?_
            try simp only [Act.put, List.setIfInBounds_toArray, List.set_cons_zero, List.set_cons_succ]
            refine take_no 18 119 rfl rfl (by kernel_rfl) (by kernel_rfl) (by kernel_rfl) (fun _ _ _ h => h) (by rfl) (by assumption) ?_
            try simp only [Act.put, List.setIfInBounds_toArray, List.set_cons_zero, List.set_cons_succ]
            refine take_no 19 120 rfl rfl (by kernel_rfl) (by kernel_rfl) (by kernel_rfl) (fun _ _ _ h => h) (by rfl) (by assumption) ?_
            try simp only [Act.put, List.setIfInBounds_toArray, List.set_cons_zero, List.set_cons_succ]
            refine take_no 20 121 rfl rfl (by kernel_rfl) (by kernel_rfl) (by kernel_rfl) (fun _ _ _ h => h) (by rfl) (by assumption) ?_
            try simp only [Act.put, List.setIfInBounds_toArray, List.set_cons_zero, List.set_cons_succ]
            refine take_yes 21 122 rfl rfl (by kernel_rfl) (by kernel_rfl) (by kernel_rfl) (fun _ _ _ h => h) (by rfl) (by assumption) (v := ?_) ?_ ?_
            rotate_left
            · intro w hSw; (try dsimp only at hSw); go_simp; (try with_reducible rfl)
            try simp only [Act.put, List.setIfInBounds_toArray, List.set_cons_zero, List.set_cons_succ]
            refine take_yes 22 100 rfl rfl (by kernel_rfl) (by kernel_rfl) (by kernel_rfl) (fun _ _ _ h => h) (by rfl) (by assumption) (v := ?_) ?_ ?_
            rotate_left
            · intro w hSw; (try dsimp only at hSw); go_simp; (try with_reducible rfl)
            try simp only [Act.put, List.setIfInBounds_toArray, List.set_cons_zero, List.set_cons_succ]
            refine wpAnyH_done (by kernel_rfl) ?_ _
            have HY := Lib.hid (HX.out _ (And.right (by assumption)))
            go_wp2_with fail
            go_ret
            exact HY.out
      by_cases h2 : h.st = 2
      · rw [h2] at x10
        have n3 : ¬ h.st = 3 := by omega
        have hwhy : ¬ (h.st = 1 ∧ c = 7 ∧ ss = 0) := fun hh => h1 hh.1
        by_cases hc1 : c = 101
        · have hc2 : (c == 101) = true := by simpa using hc1
          cases kn with
          | false =>
            have HGT : Hid (pGot (h, o) ⟨s1, s2, s3, s4, s5, s6⟩ c ss l = ((h, o), [])) := Lib.hid (by unfold pGot; rw [if_neg hwhy, if_neg (fun hh => by rw [HKN.out] at hh; exact absurd hh.2.2.1 (by decide)), if_neg (fun hh => n3 hh.1)])
            have HX : Hid (∀ W, Fr [] w8 W → POut w g (pTake (h, o) (⟨k1, k2, k3, k4, k5, k6⟩, ⟨s1, s2, s3, s4, s5, s6⟩, 34915, d0)).2 (pTake (h, o) (⟨k1, k2, k3, k4, k5, k6⟩, ⟨s1, s2, s3, s4, s5, s6⟩, 34915, d0)).1 (.returned (.slice none 0 0)) W) := Lib.hid fun W hW => by rw [HPT.out, HGT.out]; exact ⟨OutP.none_ ((HF8.out.trans hW).mono (by simp)), HPH.out W hW⟩
            go_wp2_with fail
            refine wp_region_held_drew (S := (fun W => (W.cell? ⟨g, 10, none⟩ = some (.int .i64 h.st) ∧ W.cell? ⟨g, 17, none⟩ = some (.int .i64 h.ss) ∧ W.cell? ⟨qd, 0, none⟩ = some (.int .i64 c) ∧ W.cell? ⟨qd, 1, none⟩ = some (.int .i64 ss)) ∧ Fr [] w8 W)) (by kernel_rfl) ?_ (fun hHeld => ?_)
            · (try dsimp only); exact HCX.out _ (Fr.refl [] w8).drew
            refine take_yes 0 101 rfl rfl (by kernel_rfl) (by kernel_rfl) (by kernel_rfl) (fun _ _ _ h => h) (by rfl) (by assumption) (v := ?_) ?_ ?_
            rotate_left
            · intro w hSw; (try dsimp only at hSw); go_simp; (try with_reducible rfl)
            try simp only [Act.put, List.setIfInBounds_toArray, List.set_cons_zero, List.set_cons_succ]
            refine take_yes 1 102 rfl rfl (by kernel_rfl) (by kernel_rfl) (by kernel_rfl) (fun _ _ _ h => h) (by rfl) (by assumption) (v := ?_) ?_ ?_
            rotate_left
            · intro w hSw; (try dsimp only at hSw); go_simp; (try with_reducible rfl)
            try simp only [Act.put, List.setIfInBounds_toArray, List.set_cons_zero, List.set_cons_succ]
            refine take_yes 2 103 rfl rfl (by kernel_rfl) (by kernel_rfl) (by kernel_rfl) (fun _ _ _ h => h) (by rfl) (by assumption) (v := ?_) ?_ ?_
            rotate_left
            · intro w hSw; (try dsimp only at hSw); go_simp; (try with_reducible rfl)
            try simp only [Act.put, List.setIfInBounds_toArray, List.set_cons_zero, List.set_cons_succ]
            refine take_yes 3 104 rfl rfl (by kernel_rfl) (by kernel_rfl) (by kernel_rfl) (fun _ _ _ h => h) (by rfl) (by assumption) (v := ?_) ?_ ?_
            rotate_left
            · intro w hSw; (try dsimp only at hSw); go_simp; (try with_reducible rfl)
            try simp only [Act.put, List.setIfInBounds_toArray, List.set_cons_zero, List.set_cons_succ]
            refine take_yes 4 105 rfl rfl (by kernel_rfl) (by kernel_rfl) (by kernel_rfl) (fun _ _ _ h => h) (by rfl) (by assumption) (v := .bool false) ?_ ?_
            · intro w hSw; (try dsimp only at hSw); go_simp
            try simp only [Act.put, List.setIfInBounds_toArray, List.set_cons_zero, List.set_cons_succ]
            refine take_yes 5 106 rfl rfl (by kernel_rfl) (by kernel_rfl) (by kernel_rfl) (fun _ _ _ h => h) (by rfl) (by assumption) (v := ?_) ?_ ?_
            rotate_left
            · intro w hSw; (try dsimp only at hSw); go_simp; (try with_reducible rfl)
            try simp only [Act.put, List.setIfInBounds_toArray, List.set_cons_zero, List.set_cons_succ]
            refine take_no 6 107 rfl rfl (by kernel_rfl) (by kernel_rfl) (by kernel_rfl) (fun _ _ _ h => h) (by rfl) (by assumption) ?_
            try simp only [Act.put, List.setIfInBounds_toArray, List.set_cons_zero, List.set_cons_succ]
            refine take_no 7 108 rfl rfl (by kernel_rfl) (by kernel_rfl) (by kernel_rfl) (fun _ _ _ h => h) (by rfl) (by assumption) ?_
            try simp only [Act.put, List.setIfInBounds_toArray, List.set_cons_zero, List.set_cons_succ]
            refine take_no 8 109 rfl rfl (by kernel_rfl) (by kernel_rfl) (by kernel_rfl) (fun _ _ _ h => h) (by rfl) (by assumption) ?_
            try simp only [Act.put, List.setIfInBounds_toArray, List.set_cons_zero, List.set_cons_succ]
            refine take_yes 9 110 rfl rfl (by kernel_rfl) (by kernel_rfl) (by kernel_rfl) (fun _ _ _ h => h) (by rfl) (by assumption) (v := ?_) ?_ ?_
            rotate_left
            · intro w hSw; (try dsimp only at hSw); go_simp; (try with_reducible rfl)
            try simp only [Act.put, List.setIfInBounds_toArray, List.set_cons_zero, List.set_cons_succ]
            refine take_yes 10 111 rfl rfl (by kernel_rfl) (by kernel_rfl) (by kernel_rfl) (fun _ _ _ h => h) (by rfl) (by assumption) (v := ?_) ?_ ?_
            rotate_left
            · intro w hSw; (try dsimp only at hSw); go_simp; (try with_reducible rfl)
            try simp only [Act.put, List.setIfInBounds_toArray, List.set_cons_zero, List.set_cons_succ]
            refine take_no 11 112 rfl rfl (by kernel_rfl) (by kernel_rfl) (by kernel_rfl) (fun _ _ _ h => h) (by rfl) (by assumption) ?_
            try simp only [Act.put, List.setIfInBounds_toArray, List.set_cons_zero, List.set_cons_succ]
            refine take_yes 12 113 rfl rfl (by kernel_rfl) (by kernel_rfl) (by kernel_rfl) (fun _ _ _ h => h) (by rfl) (by assumption) (v := ?_) ?_ ?_
            rotate_left
            · intro w hSw; (try dsimp only at hSw); go_simp; (try with_reducible rfl)
            try simp only [Act.put, List.setIfInBounds_toArray, List.set_cons_zero, List.set_cons_succ]
            refine take_yes 13 114 rfl rfl (by kernel_rfl) (by kernel_rfl) (by kernel_rfl) (fun _ _ _ h => h) (by rfl) (by assumption) (v := ?_) ?_ ?_
            rotate_left
            · intro w hSw; (try dsimp only at hSw); go_simp; (try with_reducible rfl)
            try simp only [Act.put, List.setIfInBounds_toArray, List.set_cons_zero, List.set_cons_succ]
            refine take_no 14 115 rfl rfl (by kernel_rfl) (by kernel_rfl) (by kernel_rfl) (fun _ _ _ h => h) (by rfl) (by assumption) ?_
            try simp only [Act.put, List.setIfInBounds_toArray, List.set_cons_zero, List.set_cons_succ]
            refine take_no 15 116 rfl rfl (by kernel_rfl) (by kernel_rfl) (by kernel_rfl) (fun _ _ _ h => h) (by rfl) (by assumption) ?_
            try simp only [Act.put, List.setIfInBounds_toArray, List.set_cons_zero, List.set_cons_succ]
            refine take_no 16 117 rfl rfl (by kernel_rfl) (by kernel_rfl) (by kernel_rfl) (fun _ _ _ h => h) (by rfl) (by assumption) ?_
            try simp only [Act.put, List.setIfInBounds_toArray, List.set_cons_zero, List.set_cons_succ]
            refine take_no 17 118 rfl rfl (by kernel_rfl) (by kernel_rfl) (by kernel_rfl) (fun _ _ _ h => h) (by rfl) (by assumption) ?_
            try simp only [Act.put, List.setIfInBounds_toArray, List.set_cons_zero, List.set_cons_succ]
            refine take_no 18 119 rfl rfl (by kernel_rfl) (by kernel_rfl) (by kernel_rfl) (fun _ _ _ h => h) (by rfl) (by assumption) ?_
            try simp only [Act.put, List.setIfInBounds_toArray, List.set_cons_zero, List.set_cons_succ]
            refine take_no 19 120 rfl rfl (by kernel_rfl) (by kernel_rfl) (by kernel_rfl) (fun _ _ _ h => h) (by rfl) (by assumption) ?_
            try simp only [Act.put, List.setIfInBounds_toArray, List.set_cons_zero, List.set_cons_succ]
            refine take_no 20 121 rfl rfl (by kernel_rfl) (by kernel_rfl) (by kernel_rfl) (fun _ _ _ h => h) (by rfl) (by assumption) ?_
            try simp only [Act.put, List.setIfInBounds_toArray, List.set_cons_zero, List.set_cons_succ]
            refine take_yes 21 122 rfl rfl (by kernel_rfl) (by kernel_rfl) (by kernel_rfl) (fun _ _ _ h => h) (by rfl) (by assumption) (v := ?_) ?_ ?_
            rotate_left
            · intro w hSw; (try dsimp only at hSw); go_simp; (try with_reducible rfl)
            try simp only [Act.put, List.setIfInBounds_toArray, List.set_cons_zero, List.set_cons_succ]
            refine take_yes 22 100 rfl rfl (by kernel_rfl) (by kernel_rfl) (by kernel_rfl) (fun _ _ _ h => h) (by rfl) (by assumption) (v := ?_) ?_ ?_
            rotate_left
            · intro w hSw; (try dsimp only at hSw); go_simp; (try with_reducible rfl)
            try simp only [Act.put, List.setIfInBounds_toArray, List.set_cons_zero, List.set_cons_succ]
            refine wpAnyH_done (by kernel_rfl) ?_ _
            have HY := Lib.hid (HX.out _ (And.right (by assumption)))
            go_wp2_with fail
            go_ret
            exact HY.out
          | true =>
            have HMT := TgAt.of_own (HOW8.out _ (Fr.refl [] w8))
            have HMC := own_caps (HOW8.out _ (Fr.refl [] w8))
            have MN := Lib.hid (mine_any HMT HBD.out.2.1 HMC.1 HMC.2 (HB8.out _ (Fr.refl [] w8)))
            clear HMT HMC
            by_cases hm : mineB h.un l = true
            · rw [hm] at MN
              have hcond : h.st = 2 ∧ c = 101 ∧ mcEq ⟨s1, s2, s3, s4, s5, s6⟩ h.k = true ∧ mineB h.un l = true := ⟨h2, hc1, HKN.out, hm⟩
              by_cases hs0 : ss = 0
              · have hs1 : (ss == 0) = true := by simpa using hs0
                have HGT : Hid (pGot (h, o) ⟨s1, s2, s3, s4, s5, s6⟩ c ss l = ((entered h 4, none), [])) := Lib.hid (by unfold pGot; rw [if_neg hwhy, if_pos hcond, if_pos hs0])
                clear hcond hm x17 hs0
                go_wp2_with fail
                refine MN.out.mono ?_
                rintro e w9 ⟨rfl, hF9⟩
                have EN := Lib.hid (enter_off 4 (by decide) (by decide) (HB8.out _ hF9))
                have z1 : w9.cell? ⟨qd, 1, none⟩ = some (.int .i64 ss) := (HD8.out _ hF9).c 1 _ rfl
                have HF9 := Lib.hid (HF8.out.trans hF9)
                clear hF9 MN
                go_wp2_with fail
                refine EN.out.mono ?_
                rintro e w10 ⟨rfl, hB10, hF10⟩
                have HZ : Hid (POut w g (pTake (h, o) (⟨k1, k2, k3, k4, k5, k6⟩, ⟨s1, s2, s3, s4, s5, s6⟩, 34915, d0)).2 (pTake (h, o) (⟨k1, k2, k3, k4, k5, k6⟩, ⟨s1, s2, s3, s4, s5, s6⟩, 34915, d0)).1 (.returned (.slice none 0 0)) w10) := Lib.hid (by
                  rw [HPT.out, HGT.out]
                  exact ⟨OutP.none_ ((HF9.out.mono (by simp)).trans hF10), _, hB10, rfl⟩)
                clear hB10 hF10 EN
                go_wp2_with fail
                go_ret
                exact HZ.out
              · have HGT : Hid (pGot (h, o) ⟨s1, s2, s3, s4, s5, s6⟩ c ss l = (({ h with st := 3, tk := 0, ag := 0, ss := ss }, o), [])) := Lib.hid (by unfold pGot; rw [if_neg hwhy, if_pos hcond, if_neg hs0])
                have hs1 : (ss == 0) = false := by rw [beq_eq_false_iff_ne]; exact hs0
                clear hcond hm x17
                go_wp2_with fail
                refine MN.out.mono ?_
                rintro e w9 ⟨rfl, hF9⟩
                have EN := Lib.hid (enter_live (HB8.out _ hF9))
                have z1 : w9.cell? ⟨qd, 1, none⟩ = some (.int .i64 ss) := (HD8.out _ hF9).c 1 _ rfl
                have HF9 := Lib.hid (HF8.out.trans hF9)
                have HD9 := Lib.hid (HD8.out _ hF9)
                have HB9 := Lib.hid (HB8.out _ hF9)
                have HC9 := Lib.hid (HC8.out _ hF9)
                clear hF9 MN
                go_wp2_with fail
                refine EN.out.mono ?_
                rintro e w10 ⟨rfl, hB10, hF10⟩
                have hne : qd ≠ g := fun e => by subst e; exact HD9.out.neT HB9.out (by decide) rfl
                have y1 : w10.cell? ⟨qd, 1, none⟩ = some (.int .i64 ss) := (hF10.blk HD9.out (by simpa using hne)).c 1 _ rfl
                have y17 := hB10.c 17 _ rfl
                have f17 := hB10.fz 17
                have hB11 : Blk (w10.setCell ⟨g, 17, none⟩ (.int .i64 ss)) g (hsC { h with st := 3, tk := 0, ag := 0, ss := ss } ck) 92 := by
                  have := hB10.set 17 (.int .i64 ss)
                  simpa [hsC] using this
                have hF11 := hF10.setCell (p := ⟨g, 17, none⟩) (by simp) (.int .i64 ss)
                have hC11 : CkV (w10.setCell ⟨g, 17, none⟩ (.int .i64 ss)) o ck := HC9.out.fr hF11 (fun q hq cur U hcc e => by simp at hq; subst hq; exact hcc.neT HB9.out (by rw [e]; decide) rfl)
                have HZ : Hid (POut w g (pTake (h, o) (⟨k1, k2, k3, k4, k5, k6⟩, ⟨s1, s2, s3, s4, s5, s6⟩, 34915, d0)).2 (pTake (h, o) (⟨k1, k2, k3, k4, k5, k6⟩, ⟨s1, s2, s3, s4, s5, s6⟩, 34915, d0)).1 (.returned (.slice none 0 0)) (w10.setCell ⟨g, 17, none⟩ (.int .i64 ss))) := Lib.hid (by
                  rw [HPT.out, HGT.out]
                  exact ⟨OutP.none_ ((HF9.out.mono (by simp)).trans hF11), _, hB11, hC11⟩)
                clear hB10 hF10 hB11 hF11 hC11 EN hne hs0
                go_wp2_with fail
                go_ret
                exact HZ.out
            · have hm2 : mineB h.un l = false := by simpa using hm
              rw [hm2] at MN
              have HGT : Hid (pGot (h, o) ⟨s1, s2, s3, s4, s5, s6⟩ c ss l = ((h, o), [])) := Lib.hid (by unfold pGot; rw [if_neg hwhy, if_neg (fun hh => hm hh.2.2.2), if_neg (fun hh => n3 hh.1)])
              have HX : Hid (∀ W, Fr [] w8 W → POut w g (pTake (h, o) (⟨k1, k2, k3, k4, k5, k6⟩, ⟨s1, s2, s3, s4, s5, s6⟩, 34915, d0)).2 (pTake (h, o) (⟨k1, k2, k3, k4, k5, k6⟩, ⟨s1, s2, s3, s4, s5, s6⟩, 34915, d0)).1 (.returned (.slice none 0 0)) W) := Lib.hid fun W hW => by rw [HPT.out, HGT.out]; exact ⟨OutP.none_ ((HF8.out.trans hW).mono (by simp)), HPH.out W hW⟩
              clear hm hm2 x17
              go_wp2_with fail
              refine MN.out.mono ?_
              rintro e w9 ⟨rfl, hF9⟩
              have HX9 : Hid (∀ W, Fr [] w9 W → POut w g (pTake (h, o) (⟨k1, k2, k3, k4, k5, k6⟩, ⟨s1, s2, s3, s4, s5, s6⟩, 34915, d0)).2 (pTake (h, o) (⟨k1, k2, k3, k4, k5, k6⟩, ⟨s1, s2, s3, s4, s5, s6⟩, 34915, d0)).1 (.returned (.slice none 0 0)) W) := Lib.hid fun W hW => HX.out W (hF9.trans hW)
              have HCX9 : Hid (∀ W, Fr [] w9 W → (fun W => (W.cell? ⟨g, 10, none⟩ = some (.int .i64 h.st) ∧ W.cell? ⟨g, 17, none⟩ = some (.int .i64 h.ss) ∧ W.cell? ⟨qd, 0, none⟩ = some (.int .i64 c) ∧ W.cell? ⟨qd, 1, none⟩ = some (.int .i64 ss)) ∧ Fr [] w9 W) W) := Lib.hid fun W hW => ⟨(HCX.out W (hF9.trans hW)).1, hW⟩
              clear MN hF9
              go_wp2_with fail
              refine wp_region_held_drew (S := (fun W => (W.cell? ⟨g, 10, none⟩ = some (.int .i64 h.st) ∧ W.cell? ⟨g, 17, none⟩ = some (.int .i64 h.ss) ∧ W.cell? ⟨qd, 0, none⟩ = some (.int .i64 c) ∧ W.cell? ⟨qd, 1, none⟩ = some (.int .i64 ss)) ∧ Fr [] w9 W)) (by kernel_rfl) ?_ (fun hHeld => ?_)
              · (try dsimp only); exact HCX9.out _ (Fr.refl [] w9).drew
              refine take_yes 0 101 rfl rfl (by kernel_rfl) (by kernel_rfl) (by kernel_rfl) (fun _ _ _ h => h) (by rfl) (by assumption) (v := ?_) ?_ ?_
              rotate_left
              · intro w hSw; (try dsimp only at hSw); go_simp; (try with_reducible rfl)
              try simp only [Act.put, List.setIfInBounds_toArray, List.set_cons_zero, List.set_cons_succ]
              refine take_yes 1 102 rfl rfl (by kernel_rfl) (by kernel_rfl) (by kernel_rfl) (fun _ _ _ h => h) (by rfl) (by assumption) (v := ?_) ?_ ?_
              rotate_left
              · intro w hSw; (try dsimp only at hSw); go_simp; (try with_reducible rfl)
              try simp only [Act.put, List.setIfInBounds_toArray, List.set_cons_zero, List.set_cons_succ]
              refine take_yes 2 103 rfl rfl (by kernel_rfl) (by kernel_rfl) (by kernel_rfl) (fun _ _ _ h => h) (by rfl) (by assumption) (v := ?_) ?_ ?_
              rotate_left
              · intro w hSw; (try dsimp only at hSw); go_simp; (try with_reducible rfl)
              try simp only [Act.put, List.setIfInBounds_toArray, List.set_cons_zero, List.set_cons_succ]
              refine take_yes 3 104 rfl rfl (by kernel_rfl) (by kernel_rfl) (by kernel_rfl) (fun _ _ _ h => h) (by rfl) (by assumption) (v := ?_) ?_ ?_
              rotate_left
              · intro w hSw; (try dsimp only at hSw); go_simp; (try with_reducible rfl)
              try simp only [Act.put, List.setIfInBounds_toArray, List.set_cons_zero, List.set_cons_succ]
              refine take_yes 4 105 rfl rfl (by kernel_rfl) (by kernel_rfl) (by kernel_rfl) (fun _ _ _ h => h) (by rfl) (by assumption) (v := .bool false) ?_ ?_
              · intro w hSw; (try dsimp only at hSw); go_simp
              try simp only [Act.put, List.setIfInBounds_toArray, List.set_cons_zero, List.set_cons_succ]
              refine take_yes 5 106 rfl rfl (by kernel_rfl) (by kernel_rfl) (by kernel_rfl) (fun _ _ _ h => h) (by rfl) (by assumption) (v := ?_) ?_ ?_
              rotate_left
              · intro w hSw; (try dsimp only at hSw); go_simp; (try with_reducible rfl)
              try simp only [Act.put, List.setIfInBounds_toArray, List.set_cons_zero, List.set_cons_succ]
              refine take_no 6 107 rfl rfl (by kernel_rfl) (by kernel_rfl) (by kernel_rfl) (fun _ _ _ h => h) (by rfl) (by assumption) ?_
              try simp only [Act.put, List.setIfInBounds_toArray, List.set_cons_zero, List.set_cons_succ]
              refine take_no 7 108 rfl rfl (by kernel_rfl) (by kernel_rfl) (by kernel_rfl) (fun _ _ _ h => h) (by rfl) (by assumption) ?_
              try simp only [Act.put, List.setIfInBounds_toArray, List.set_cons_zero, List.set_cons_succ]
              refine take_no 8 109 rfl rfl (by kernel_rfl) (by kernel_rfl) (by kernel_rfl) (fun _ _ _ h => h) (by rfl) (by assumption) ?_
              try simp only [Act.put, List.setIfInBounds_toArray, List.set_cons_zero, List.set_cons_succ]
              refine take_yes 9 110 rfl rfl (by kernel_rfl) (by kernel_rfl) (by kernel_rfl) (fun _ _ _ h => h) (by rfl) (by assumption) (v := ?_) ?_ ?_
              rotate_left
              · intro w hSw; (try dsimp only at hSw); go_simp; (try with_reducible rfl)
              try simp only [Act.put, List.setIfInBounds_toArray, List.set_cons_zero, List.set_cons_succ]
              refine take_yes 10 111 rfl rfl (by kernel_rfl) (by kernel_rfl) (by kernel_rfl) (fun _ _ _ h => h) (by rfl) (by assumption) (v := ?_) ?_ ?_
              rotate_left
              · intro w hSw; (try dsimp only at hSw); go_simp; (try with_reducible rfl)
              try simp only [Act.put, List.setIfInBounds_toArray, List.set_cons_zero, List.set_cons_succ]
              refine take_no 11 112 rfl rfl (by kernel_rfl) (by kernel_rfl) (by kernel_rfl) (fun _ _ _ h => h) (by rfl) (by assumption) ?_
              try simp only [Act.put, List.setIfInBounds_toArray, List.set_cons_zero, List.set_cons_succ]
              refine take_yes 12 113 rfl rfl (by kernel_rfl) (by kernel_rfl) (by kernel_rfl) (fun _ _ _ h => h) (by rfl) (by assumption) (v := ?_) ?_ ?_
              rotate_left
              · intro w hSw; (try dsimp only at hSw); go_simp; (try with_reducible rfl)
              try simp only [Act.put, List.setIfInBounds_toArray, List.set_cons_zero, List.set_cons_succ]
              refine take_yes 13 114 rfl rfl (by kernel_rfl) (by kernel_rfl) (by kernel_rfl) (fun _ _ _ h => h) (by rfl) (by assumption) (v := ?_) ?_ ?_
              rotate_left
              · intro w hSw; (try dsimp only at hSw); go_simp; (try with_reducible rfl)
              try simp only [Act.put, List.setIfInBounds_toArray, List.set_cons_zero, List.set_cons_succ]
              refine take_no 14 115 rfl rfl (by kernel_rfl) (by kernel_rfl) (by kernel_rfl) (fun _ _ _ h => h) (by rfl) (by assumption) ?_
              try simp only [Act.put, List.setIfInBounds_toArray, List.set_cons_zero, List.set_cons_succ]
              refine take_no 15 116 rfl rfl (by kernel_rfl) (by kernel_rfl) (by kernel_rfl) (fun _ _ _ h => h) (by rfl) (by assumption) ?_
              try simp only [Act.put, List.setIfInBounds_toArray, List.set_cons_zero, List.set_cons_succ]
              refine take_no 16 117 rfl rfl (by kernel_rfl) (by kernel_rfl) (by kernel_rfl) (fun _ _ _ h => h) (by rfl) (by assumption) ?_
              try simp only [Act.put, List.setIfInBounds_toArray, List.set_cons_zero, List.set_cons_succ]
              refine take_no 17 118 rfl rfl (by kernel_rfl) (by kernel_rfl) (by kernel_rfl) (fun _ _ _ h => h) (by rfl) (by assumption) ?_
              try simp only [Act.put, List.setIfInBounds_toArray, List.set_cons_zero, List.set_cons_succ]
              refine take_no 18 119 rfl rfl (by kernel_rfl) (by kernel_rfl) (by kernel_rfl) (fun _ _ _ h => h) (by rfl) (by assumption) ?_
              try simp only [Act.put, List.setIfInBounds_toArray, List.set_cons_zero, List.set_cons_succ]
              refine take_no 19 120 rfl rfl (by kernel_rfl) (by kernel_rfl) (by kernel_rfl) (fun _ _ _ h => h) (by rfl) (by assumption) ?_
              try simp only [Act.put, List.setIfInBounds_toArray, List.set_cons_zero, List.set_cons_succ]
              refine take_no 20 121 rfl rfl (by kernel_rfl) (by kernel_rfl) (by kernel_rfl) (fun _ _ _ h => h) (by rfl) (by assumption) ?_
              try simp only [Act.put, List.setIfInBounds_toArray, List.set_cons_zero, List.set_cons_succ]
              refine take_yes 21 122 rfl rfl (by kernel_rfl) (by kernel_rfl) (by kernel_rfl) (fun _ _ _ h => h) (by rfl) (by assumption) (v := ?_) ?_ ?_
              rotate_left
              · intro w hSw; (try dsimp only at hSw); go_simp; (try with_reducible rfl)
              try simp only [Act.put, List.setIfInBounds_toArray, List.set_cons_zero, List.set_cons_succ]
              refine take_yes 22 100 rfl rfl (by kernel_rfl) (by kernel_rfl) (by kernel_rfl) (fun _ _ _ h => h) (by rfl) (by assumption) (v := ?_) ?_ ?_
              rotate_left
              · intro w hSw; (try dsimp only at hSw); go_simp; (try with_reducible rfl)
              try simp only [Act.put, List.setIfInBounds_toArray, List.set_cons_zero, List.set_cons_succ]
              refine wpAnyH_done (by kernel_rfl) ?_ _
              have HY := Lib.hid (HX9.out _ (And.right (by assumption)))
              go_wp2_with fail
              go_ret
              exact HY.out
        · have hc2 : (c == 101) = false := by rw [beq_eq_false_iff_ne]; exact hc1
          have HGT : Hid (pGot (h, o) ⟨s1, s2, s3, s4, s5, s6⟩ c ss l = ((h, o), [])) := Lib.hid (by unfold pGot; rw [if_neg hwhy, if_neg (fun hh => hc1 hh.2.1), if_neg (fun hh => n3 hh.1)])
          have HX : Hid (∀ W, Fr [] w8 W → POut w g (pTake (h, o) (⟨k1, k2, k3, k4, k5, k6⟩, ⟨s1, s2, s3, s4, s5, s6⟩, 34915, d0)).2 (pTake (h, o) (⟨k1, k2, k3, k4, k5, k6⟩, ⟨s1, s2, s3, s4, s5, s6⟩, 34915, d0)).1 (.returned (.slice none 0 0)) W) := Lib.hid fun W hW => by rw [HPT.out, HGT.out]; exact ⟨OutP.none_ ((HF8.out.trans hW).mono (by simp)), HPH.out W hW⟩
          go_wp2_with fail
          refine wp_region_held_drew (S := (fun W => (W.cell? ⟨g, 10, none⟩ = some (.int .i64 h.st) ∧ W.cell? ⟨g, 17, none⟩ = some (.int .i64 h.ss) ∧ W.cell? ⟨qd, 0, none⟩ = some (.int .i64 c) ∧ W.cell? ⟨qd, 1, none⟩ = some (.int .i64 ss)) ∧ Fr [] w8 W)) (by kernel_rfl) ?_ (fun hHeld => ?_)
          · (try dsimp only); exact HCX.out _ (Fr.refl [] w8).drew
          refine take_yes 0 101 rfl rfl (by kernel_rfl) (by kernel_rfl) (by kernel_rfl) (fun _ _ _ h => h) (by rfl) (by assumption) (v := ?_) ?_ ?_
          rotate_left
          · intro w hSw; (try dsimp only at hSw); go_simp; (try with_reducible rfl)
          try simp only [Act.put, List.setIfInBounds_toArray, List.set_cons_zero, List.set_cons_succ]
          refine take_yes 1 102 rfl rfl (by kernel_rfl) (by kernel_rfl) (by kernel_rfl) (fun _ _ _ h => h) (by rfl) (by assumption) (v := ?_) ?_ ?_
          rotate_left
          · intro w hSw; (try dsimp only at hSw); go_simp; (try with_reducible rfl)
          try simp only [Act.put, List.setIfInBounds_toArray, List.set_cons_zero, List.set_cons_succ]
          refine take_yes 2 103 rfl rfl (by kernel_rfl) (by kernel_rfl) (by kernel_rfl) (fun _ _ _ h => h) (by rfl) (by assumption) (v := ?_) ?_ ?_
          rotate_left
          · intro w hSw; (try dsimp only at hSw); go_simp; (try with_reducible rfl)
          try simp only [Act.put, List.setIfInBounds_toArray, List.set_cons_zero, List.set_cons_succ]
          refine take_yes 3 104 rfl rfl (by kernel_rfl) (by kernel_rfl) (by kernel_rfl) (fun _ _ _ h => h) (by rfl) (by assumption) (v := ?_) ?_ ?_
          rotate_left
          · intro w hSw; (try dsimp only at hSw); go_simp; (try with_reducible rfl)
          try simp only [Act.put, List.setIfInBounds_toArray, List.set_cons_zero, List.set_cons_succ]
          refine take_yes 4 105 rfl rfl (by kernel_rfl) (by kernel_rfl) (by kernel_rfl) (fun _ _ _ h => h) (by rfl) (by assumption) (v := .bool false) ?_ ?_
          · intro w hSw; (try dsimp only at hSw); go_simp
          try simp only [Act.put, List.setIfInBounds_toArray, List.set_cons_zero, List.set_cons_succ]
          refine take_yes 5 106 rfl rfl (by kernel_rfl) (by kernel_rfl) (by kernel_rfl) (fun _ _ _ h => h) (by rfl) (by assumption) (v := ?_) ?_ ?_
          rotate_left
          · intro w hSw; (try dsimp only at hSw); go_simp; (try with_reducible rfl)
          try simp only [Act.put, List.setIfInBounds_toArray, List.set_cons_zero, List.set_cons_succ]
          refine take_no 6 107 rfl rfl (by kernel_rfl) (by kernel_rfl) (by kernel_rfl) (fun _ _ _ h => h) (by rfl) (by assumption) ?_
          try simp only [Act.put, List.setIfInBounds_toArray, List.set_cons_zero, List.set_cons_succ]
          refine take_no 7 108 rfl rfl (by kernel_rfl) (by kernel_rfl) (by kernel_rfl) (fun _ _ _ h => h) (by rfl) (by assumption) ?_
          try simp only [Act.put, List.setIfInBounds_toArray, List.set_cons_zero, List.set_cons_succ]
          refine take_no 8 109 rfl rfl (by kernel_rfl) (by kernel_rfl) (by kernel_rfl) (fun _ _ _ h => h) (by rfl) (by assumption) ?_
          try simp only [Act.put, List.setIfInBounds_toArray, List.set_cons_zero, List.set_cons_succ]
          refine take_yes 9 110 rfl rfl (by kernel_rfl) (by kernel_rfl) (by kernel_rfl) (fun _ _ _ h => h) (by rfl) (by assumption) (v := ?_) ?_ ?_
          rotate_left
          · intro w hSw; (try dsimp only at hSw); go_simp; (try with_reducible rfl)
          try simp only [Act.put, List.setIfInBounds_toArray, List.set_cons_zero, List.set_cons_succ]
          refine take_yes 10 111 rfl rfl (by kernel_rfl) (by kernel_rfl) (by kernel_rfl) (fun _ _ _ h => h) (by rfl) (by assumption) (v := ?_) ?_ ?_
          rotate_left
          · intro w hSw; (try dsimp only at hSw); go_simp; (try with_reducible rfl)
          try simp only [Act.put, List.setIfInBounds_toArray, List.set_cons_zero, List.set_cons_succ]
          refine take_no 11 112 rfl rfl (by kernel_rfl) (by kernel_rfl) (by kernel_rfl) (fun _ _ _ h => h) (by rfl) (by assumption) ?_
          try simp only [Act.put, List.setIfInBounds_toArray, List.set_cons_zero, List.set_cons_succ]
          refine take_yes 12 113 rfl rfl (by kernel_rfl) (by kernel_rfl) (by kernel_rfl) (fun _ _ _ h => h) (by rfl) (by assumption) (v := ?_) ?_ ?_
          rotate_left
          · intro w hSw; (try dsimp only at hSw); go_simp; (try with_reducible rfl)
          try simp only [Act.put, List.setIfInBounds_toArray, List.set_cons_zero, List.set_cons_succ]
          refine take_yes 13 114 rfl rfl (by kernel_rfl) (by kernel_rfl) (by kernel_rfl) (fun _ _ _ h => h) (by rfl) (by assumption) (v := ?_) ?_ ?_
          rotate_left
          · intro w hSw; (try dsimp only at hSw); go_simp; (try with_reducible rfl)
          try simp only [Act.put, List.setIfInBounds_toArray, List.set_cons_zero, List.set_cons_succ]
          refine take_no 14 115 rfl rfl (by kernel_rfl) (by kernel_rfl) (by kernel_rfl) (fun _ _ _ h => h) (by rfl) (by assumption) ?_
          try simp only [Act.put, List.setIfInBounds_toArray, List.set_cons_zero, List.set_cons_succ]
          refine take_no 15 116 rfl rfl (by kernel_rfl) (by kernel_rfl) (by kernel_rfl) (fun _ _ _ h => h) (by rfl) (by assumption) ?_
          try simp only [Act.put, List.setIfInBounds_toArray, List.set_cons_zero, List.set_cons_succ]
          refine take_no 16 117 rfl rfl (by kernel_rfl) (by kernel_rfl) (by kernel_rfl) (fun _ _ _ h => h) (by rfl) (by assumption) ?_
          try simp only [Act.put, List.setIfInBounds_toArray, List.set_cons_zero, List.set_cons_succ]
          refine take_no 17 118 rfl rfl (by kernel_rfl) (by kernel_rfl) (by kernel_rfl) (fun _ _ _ h => h) (by rfl) (by assumption) ?_
          try simp only [Act.put, List.setIfInBounds_toArray, List.set_cons_zero, List.set_cons_succ]
          refine take_no 18 119 rfl rfl (by kernel_rfl) (by kernel_rfl) (by kernel_rfl) (fun _ _ _ h => h) (by rfl) (by assumption) ?_
          try simp only [Act.put, List.setIfInBounds_toArray, List.set_cons_zero, List.set_cons_succ]
          refine take_no 19 120 rfl rfl (by kernel_rfl) (by kernel_rfl) (by kernel_rfl) (fun _ _ _ h => h) (by rfl) (by assumption) ?_
          try simp only [Act.put, List.setIfInBounds_toArray, List.set_cons_zero, List.set_cons_succ]
          refine take_no 20 121 rfl rfl (by kernel_rfl) (by kernel_rfl) (by kernel_rfl) (fun _ _ _ h => h) (by rfl) (by assumption) ?_
          try simp only [Act.put, List.setIfInBounds_toArray, List.set_cons_zero, List.set_cons_succ]
          refine take_yes 21 122 rfl rfl (by kernel_rfl) (by kernel_rfl) (by kernel_rfl) (fun _ _ _ h => h) (by rfl) (by assumption) (v := ?_) ?_ ?_
          rotate_left
          · intro w hSw; (try dsimp only at hSw); go_simp; (try with_reducible rfl)
          try simp only [Act.put, List.setIfInBounds_toArray, List.set_cons_zero, List.set_cons_succ]
          refine take_yes 22 100 rfl rfl (by kernel_rfl) (by kernel_rfl) (by kernel_rfl) (fun _ _ _ h => h) (by rfl) (by assumption) (v := ?_) ?_ ?_
          rotate_left
          · intro w hSw; (try dsimp only at hSw); go_simp; (try with_reducible rfl)
          try simp only [Act.put, List.setIfInBounds_toArray, List.set_cons_zero, List.set_cons_succ]
          refine wpAnyH_done (by kernel_rfl) ?_ _
          have HY := Lib.hid (HX.out _ (And.right (by assumption)))
          go_wp2_with fail
          go_ret
          exact HY.out
      by_cases h3 : h.st = 3
      · rw [h3] at x10
        have hwhy : ¬ (h.st = 1 ∧ c = 7 ∧ ss = 0) := fun hh => h1 hh.1
        have hwhy2 : ¬ (h.st = 2 ∧ c = 101 ∧ mcEq ⟨s1, s2, s3, s4, s5, s6⟩ h.k = true ∧ mineB h.un l = true) := fun hh => h2 hh.1
        by_cases hc1 : c = 167
        · have hc2 : (c == 167) = true := by simpa using hc1
          cases kn with
          | false =>
            have HGT : Hid (pGot (h, o) ⟨s1, s2, s3, s4, s5, s6⟩ c ss l = ((h, o), [])) := Lib.hid (by unfold pGot; rw [if_neg hwhy, if_neg hwhy2, if_neg (fun hh => by rw [HKN.out] at hh; exact absurd hh.2.2.1 (by decide))])
            have HX : Hid (∀ W, Fr [] w8 W → POut w g (pTake (h, o) (⟨k1, k2, k3, k4, k5, k6⟩, ⟨s1, s2, s3, s4, s5, s6⟩, 34915, d0)).2 (pTake (h, o) (⟨k1, k2, k3, k4, k5, k6⟩, ⟨s1, s2, s3, s4, s5, s6⟩, 34915, d0)).1 (.returned (.slice none 0 0)) W) := Lib.hid fun W hW => by rw [HPT.out, HGT.out]; exact ⟨OutP.none_ ((HF8.out.trans hW).mono (by simp)), HPH.out W hW⟩
            go_wp2_with fail
            refine wp_region_held_drew (S := (fun W => (W.cell? ⟨g, 10, none⟩ = some (.int .i64 h.st) ∧ W.cell? ⟨g, 17, none⟩ = some (.int .i64 h.ss) ∧ W.cell? ⟨qd, 0, none⟩ = some (.int .i64 c) ∧ W.cell? ⟨qd, 1, none⟩ = some (.int .i64 ss)) ∧ Fr [] w8 W)) (by kernel_rfl) ?_ (fun hHeld => ?_)
            · (try dsimp only); exact HCX.out _ (Fr.refl [] w8).drew
            refine take_yes 0 101 rfl rfl (by kernel_rfl) (by kernel_rfl) (by kernel_rfl) (fun _ _ _ h => h) (by rfl) (by assumption) (v := ?_) ?_ ?_
            rotate_left
            · intro w hSw; (try dsimp only at hSw); go_simp; (try with_reducible rfl)
            try simp only [Act.put, List.setIfInBounds_toArray, List.set_cons_zero, List.set_cons_succ]
            refine take_yes 1 102 rfl rfl (by kernel_rfl) (by kernel_rfl) (by kernel_rfl) (fun _ _ _ h => h) (by rfl) (by assumption) (v := ?_) ?_ ?_
            rotate_left
            · intro w hSw; (try dsimp only at hSw); go_simp; (try with_reducible rfl)
            try simp only [Act.put, List.setIfInBounds_toArray, List.set_cons_zero, List.set_cons_succ]
            refine take_yes 2 103 rfl rfl (by kernel_rfl) (by kernel_rfl) (by kernel_rfl) (fun _ _ _ h => h) (by rfl) (by assumption) (v := ?_) ?_ ?_
            rotate_left
            · intro w hSw; (try dsimp only at hSw); go_simp; (try with_reducible rfl)
            try simp only [Act.put, List.setIfInBounds_toArray, List.set_cons_zero, List.set_cons_succ]
            refine take_yes 3 104 rfl rfl (by kernel_rfl) (by kernel_rfl) (by kernel_rfl) (fun _ _ _ h => h) (by rfl) (by assumption) (v := ?_) ?_ ?_
            rotate_left
            · intro w hSw; (try dsimp only at hSw); go_simp; (try with_reducible rfl)
            try simp only [Act.put, List.setIfInBounds_toArray, List.set_cons_zero, List.set_cons_succ]
            refine take_yes 4 105 rfl rfl (by kernel_rfl) (by kernel_rfl) (by kernel_rfl) (fun _ _ _ h => h) (by rfl) (by assumption) (v := .bool true) ?_ ?_
            · intro w hSw; (try dsimp only at hSw); go_simp
            try simp only [Act.put, List.setIfInBounds_toArray, List.set_cons_zero, List.set_cons_succ]
            refine take_yes 5 106 rfl rfl (by kernel_rfl) (by kernel_rfl) (by kernel_rfl) (fun _ _ _ h => h) (by rfl) (by assumption) (v := ?_) ?_ ?_
            rotate_left
            · intro w hSw; (try dsimp only at hSw); go_simp; (try with_reducible rfl)
            try simp only [Act.put, List.setIfInBounds_toArray, List.set_cons_zero, List.set_cons_succ]
            refine take_yes 6 107 rfl rfl (by kernel_rfl) (by kernel_rfl) (by kernel_rfl) (fun _ _ _ h => h) (by rfl) (by assumption) (v := ?_) ?_ ?_
            rotate_left
            · intro w hSw; (try dsimp only at hSw); go_simp; (try with_reducible rfl)
            try simp only [Act.put, List.setIfInBounds_toArray, List.set_cons_zero, List.set_cons_succ]
            refine take_yes 7 108 rfl rfl (by kernel_rfl) (by kernel_rfl) (by kernel_rfl) (fun _ _ _ h => h) (by rfl) (by assumption) (v := ?_) ?_ ?_
            rotate_left
            · intro w hSw; (try dsimp only at hSw); go_simp; (try with_reducible rfl)
            try simp only [Act.put, List.setIfInBounds_toArray, List.set_cons_zero, List.set_cons_succ]
            refine take_yes 8 109 rfl rfl (by kernel_rfl) (by kernel_rfl) (by kernel_rfl) (fun _ _ _ h => h) (by rfl) (by assumption) (v := .bool true) ?_ ?_
            · intro w hSw; (try dsimp only at hSw); go_simp
            try simp only [Act.put, List.setIfInBounds_toArray, List.set_cons_zero, List.set_cons_succ]
            refine take_yes 9 110 rfl rfl (by kernel_rfl) (by kernel_rfl) (by kernel_rfl) (fun _ _ _ h => h) (by rfl) (by assumption) (v := ?_) ?_ ?_
            rotate_left
            · intro w hSw; (try dsimp only at hSw); go_simp; (try with_reducible rfl)
            try simp only [Act.put, List.setIfInBounds_toArray, List.set_cons_zero, List.set_cons_succ]
            refine take_yes 10 111 rfl rfl (by kernel_rfl) (by kernel_rfl) (by kernel_rfl) (fun _ _ _ h => h) (by rfl) (by assumption) (v := ?_) ?_ ?_
            rotate_left
            · intro w hSw; (try dsimp only at hSw); go_simp; (try with_reducible rfl)
            try simp only [Act.put, List.setIfInBounds_toArray, List.set_cons_zero, List.set_cons_succ]
            refine take_yes 11 112 rfl rfl (by kernel_rfl) (by kernel_rfl) (by kernel_rfl) (fun _ _ _ h => h) (by rfl) (by assumption) (v := ?_) ?_ ?_
            rotate_left
            · intro w hSw; (try dsimp only at hSw); go_simp; (try with_reducible rfl)
            try simp only [Act.put, List.setIfInBounds_toArray, List.set_cons_zero, List.set_cons_succ]
            refine take_yes 12 113 rfl rfl (by kernel_rfl) (by kernel_rfl) (by kernel_rfl) (fun _ _ _ h => h) (by rfl) (by assumption) (v := ?_) ?_ ?_
            rotate_left
            · intro w hSw; (try dsimp only at hSw); go_simp; (try with_reducible rfl)
            try simp only [Act.put, List.setIfInBounds_toArray, List.set_cons_zero, List.set_cons_succ]
            refine take_yes 13 114 rfl rfl (by kernel_rfl) (by kernel_rfl) (by kernel_rfl) (fun _ _ _ h => h) (by rfl) (by assumption) (v := ?_) ?_ ?_
            rotate_left
            · intro w hSw; (try dsimp only at hSw); go_simp; (try with_reducible rfl)
            try simp only [Act.put, List.setIfInBounds_toArray, List.set_cons_zero, List.set_cons_succ]
            refine take_no 14 115 rfl rfl (by kernel_rfl) (by kernel_rfl) (by kernel_rfl) (fun _ _ _ h => h) (by rfl) (by assumption) ?_
            try simp only [Act.put, List.setIfInBounds_toArray, List.set_cons_zero, List.set_cons_succ]
            refine take_no 15 116 rfl rfl (by kernel_rfl) (by kernel_rfl) (by kernel_rfl) (fun _ _ _ h => h) (by rfl) (by assumption) ?_
            try simp only [Act.put, List.setIfInBounds_toArray, List.set_cons_zero, List.set_cons_succ]
            refine take_no 16 117 rfl rfl (by kernel_rfl) (by kernel_rfl) (by kernel_rfl) (fun _ _ _ h => h) (by rfl) (by assumption) ?_
            try simp only [Act.put, List.setIfInBounds_toArray, List.set_cons_zero, List.set_cons_succ]
            refine take_no 17 118 rfl rfl (by kernel_rfl) (by kernel_rfl) (by kernel_rfl) (fun _ _ _ h => h) (by rfl) (by assumption) ?_
            try simp only [Act.put, List.setIfInBounds_toArray, List.set_cons_zero, List.set_cons_succ]
            refine take_no 18 119 rfl rfl (by kernel_rfl) (by kernel_rfl) (by kernel_rfl) (fun _ _ _ h => h) (by rfl) (by assumption) ?_
            try simp only [Act.put, List.setIfInBounds_toArray, List.set_cons_zero, List.set_cons_succ]
            refine take_no 19 120 rfl rfl (by kernel_rfl) (by kernel_rfl) (by kernel_rfl) (fun _ _ _ h => h) (by rfl) (by assumption) ?_
            try simp only [Act.put, List.setIfInBounds_toArray, List.set_cons_zero, List.set_cons_succ]
            refine take_no 20 121 rfl rfl (by kernel_rfl) (by kernel_rfl) (by kernel_rfl) (fun _ _ _ h => h) (by rfl) (by assumption) ?_
            try simp only [Act.put, List.setIfInBounds_toArray, List.set_cons_zero, List.set_cons_succ]
            refine take_yes 21 122 rfl rfl (by kernel_rfl) (by kernel_rfl) (by kernel_rfl) (fun _ _ _ h => h) (by rfl) (by assumption) (v := ?_) ?_ ?_
            rotate_left
            · intro w hSw; (try dsimp only at hSw); go_simp; (try with_reducible rfl)
            try simp only [Act.put, List.setIfInBounds_toArray, List.set_cons_zero, List.set_cons_succ]
            refine take_yes 22 100 rfl rfl (by kernel_rfl) (by kernel_rfl) (by kernel_rfl) (fun _ _ _ h => h) (by rfl) (by assumption) (v := ?_) ?_ ?_
            rotate_left
            · intro w hSw; (try dsimp only at hSw); go_simp; (try with_reducible rfl)
            try simp only [Act.put, List.setIfInBounds_toArray, List.set_cons_zero, List.set_cons_succ]
            refine wpAnyH_done (by kernel_rfl) ?_ _
            have HY := Lib.hid (HX.out _ (And.right (by assumption)))
            go_wp2_with fail
            go_ret
            exact HY.out
          | true =>
            by_cases hs1 : ss = h.ss
            · have hs2 : (ss == h.ss) = true := by simpa using hs1
              have HGT : Hid (pGot (h, o) ⟨s1, s2, s3, s4, s5, s6⟩ c ss l = ((entered h 0, none), [])) := Lib.hid (by unfold pGot; rw [if_neg hwhy, if_neg hwhy2, if_pos ⟨h3, hc1, HKN.out, hs1⟩])
              have EN := Lib.hid fun W (hW : Fr [] w8 W) => enter_off 0 (by decide) (by decide) (HB8.out W hW)
              clear hs1
              go_wp2_with fail
              refine wp_region_held_drew (S := (fun W => (W.cell? ⟨g, 10, none⟩ = some (.int .i64 h.st) ∧ W.cell? ⟨g, 17, none⟩ = some (.int .i64 h.ss) ∧ W.cell? ⟨qd, 0, none⟩ = some (.int .i64 c) ∧ W.cell? ⟨qd, 1, none⟩ = some (.int .i64 ss)) ∧ Fr [] w8 W)) (by kernel_rfl) ?_ (fun hHeld => ?_)
              · (try dsimp only); exact HCX.out _ (Fr.refl [] w8).drew
              refine take_yes 0 101 rfl rfl (by kernel_rfl) (by kernel_rfl) (by kernel_rfl) (fun _ _ _ h => h) (by rfl) (by assumption) (v := ?_) ?_ ?_
              rotate_left
              · intro w hSw; (try dsimp only at hSw); go_simp; (try with_reducible rfl)
              try simp only [Act.put, List.setIfInBounds_toArray, List.set_cons_zero, List.set_cons_succ]
              refine take_yes 1 102 rfl rfl (by kernel_rfl) (by kernel_rfl) (by kernel_rfl) (fun _ _ _ h => h) (by rfl) (by assumption) (v := ?_) ?_ ?_
              rotate_left
              · intro w hSw; (try dsimp only at hSw); go_simp; (try with_reducible rfl)
              try simp only [Act.put, List.setIfInBounds_toArray, List.set_cons_zero, List.set_cons_succ]
              refine take_yes 2 103 rfl rfl (by kernel_rfl) (by kernel_rfl) (by kernel_rfl) (fun _ _ _ h => h) (by rfl) (by assumption) (v := ?_) ?_ ?_
              rotate_left
              · intro w hSw; (try dsimp only at hSw); go_simp; (try with_reducible rfl)
              try simp only [Act.put, List.setIfInBounds_toArray, List.set_cons_zero, List.set_cons_succ]
              refine take_yes 3 104 rfl rfl (by kernel_rfl) (by kernel_rfl) (by kernel_rfl) (fun _ _ _ h => h) (by rfl) (by assumption) (v := ?_) ?_ ?_
              rotate_left
              · intro w hSw; (try dsimp only at hSw); go_simp; (try with_reducible rfl)
              try simp only [Act.put, List.setIfInBounds_toArray, List.set_cons_zero, List.set_cons_succ]
              refine take_yes 4 105 rfl rfl (by kernel_rfl) (by kernel_rfl) (by kernel_rfl) (fun _ _ _ h => h) (by rfl) (by assumption) (v := .bool true) ?_ ?_
              · intro w hSw; (try dsimp only at hSw); go_simp
              try simp only [Act.put, List.setIfInBounds_toArray, List.set_cons_zero, List.set_cons_succ]
              refine take_yes 5 106 rfl rfl (by kernel_rfl) (by kernel_rfl) (by kernel_rfl) (fun _ _ _ h => h) (by rfl) (by assumption) (v := ?_) ?_ ?_
              rotate_left
              · intro w hSw; (try dsimp only at hSw); go_simp; (try with_reducible rfl)
              try simp only [Act.put, List.setIfInBounds_toArray, List.set_cons_zero, List.set_cons_succ]
              refine take_yes 6 107 rfl rfl (by kernel_rfl) (by kernel_rfl) (by kernel_rfl) (fun _ _ _ h => h) (by rfl) (by assumption) (v := ?_) ?_ ?_
              rotate_left
              · intro w hSw; (try dsimp only at hSw); go_simp; (try with_reducible rfl)
              try simp only [Act.put, List.setIfInBounds_toArray, List.set_cons_zero, List.set_cons_succ]
              refine take_yes 7 108 rfl rfl (by kernel_rfl) (by kernel_rfl) (by kernel_rfl) (fun _ _ _ h => h) (by rfl) (by assumption) (v := ?_) ?_ ?_
              rotate_left
              · intro w hSw; (try dsimp only at hSw); go_simp; (try with_reducible rfl)
              try simp only [Act.put, List.setIfInBounds_toArray, List.set_cons_zero, List.set_cons_succ]
              refine take_yes 8 109 rfl rfl (by kernel_rfl) (by kernel_rfl) (by kernel_rfl) (fun _ _ _ h => h) (by rfl) (by assumption) (v := .bool true) ?_ ?_
              · intro w hSw; (try dsimp only at hSw); go_simp
              try simp only [Act.put, List.setIfInBounds_toArray, List.set_cons_zero, List.set_cons_succ]
              refine take_yes 9 110 rfl rfl (by kernel_rfl) (by kernel_rfl) (by kernel_rfl) (fun _ _ _ h => h) (by rfl) (by assumption) (v := ?_) ?_ ?_
              rotate_left
              · intro w hSw; (try dsimp only at hSw); go_simp; (try with_reducible rfl)
              try simp only [Act.put, List.setIfInBounds_toArray, List.set_cons_zero, List.set_cons_succ]
              refine take_yes 10 111 rfl rfl (by kernel_rfl) (by kernel_rfl) (by kernel_rfl) (fun _ _ _ h => h) (by rfl) (by assumption) (v := ?_) ?_ ?_
              rotate_left
              · intro w hSw; (try dsimp only at hSw); go_simp; (try with_reducible rfl)
              try simp only [Act.put, List.setIfInBounds_toArray, List.set_cons_zero, List.set_cons_succ]
              refine take_yes 11 112 rfl rfl (by kernel_rfl) (by kernel_rfl) (by kernel_rfl) (fun _ _ _ h => h) (by rfl) (by assumption) (v := ?_) ?_ ?_
              rotate_left
              · intro w hSw; (try dsimp only at hSw); go_simp; (try with_reducible rfl)
              try simp only [Act.put, List.setIfInBounds_toArray, List.set_cons_zero, List.set_cons_succ]
              refine take_yes 12 113 rfl rfl (by kernel_rfl) (by kernel_rfl) (by kernel_rfl) (fun _ _ _ h => h) (by rfl) (by assumption) (v := ?_) ?_ ?_
              rotate_left
              · intro w hSw; (try dsimp only at hSw); go_simp; (try with_reducible rfl)
              try simp only [Act.put, List.setIfInBounds_toArray, List.set_cons_zero, List.set_cons_succ]
              refine take_yes 13 114 rfl rfl (by kernel_rfl) (by kernel_rfl) (by kernel_rfl) (fun _ _ _ h => h) (by rfl) (by assumption) (v := ?_) ?_ ?_
              rotate_left
              · intro w hSw; (try dsimp only at hSw); go_simp; (try with_reducible rfl)
              try simp only [Act.put, List.setIfInBounds_toArray, List.set_cons_zero, List.set_cons_succ]
              refine take_yes 14 115 rfl rfl (by kernel_rfl) (by kernel_rfl) (by kernel_rfl) (fun _ _ _ h => h) (by rfl) (by assumption) (v := ?_) ?_ ?_
              rotate_left
              · intro w hSw; (try dsimp only at hSw); go_simp; (try with_reducible rfl)
              try simp only [Act.put, List.setIfInBounds_toArray, List.set_cons_zero, List.set_cons_succ]
              refine take_yes 15 116 rfl rfl (by kernel_rfl) (by kernel_rfl) (by kernel_rfl) (fun _ _ _ h => h) (by rfl) (by assumption) (v := ?_) ?_ ?_
              rotate_left
              · intro w hSw; (try dsimp only at hSw); go_simp; (try with_reducible rfl)
              try simp only [Act.put, List.setIfInBounds_toArray, List.set_cons_zero, List.set_cons_succ]
              refine take_yes 16 117 rfl rfl (by kernel_rfl) (by kernel_rfl) (by kernel_rfl) (fun _ _ _ h => h) (by rfl) (by assumption) (v := ?_) ?_ ?_
              rotate_left
              · intro w hSw; (try dsimp only at hSw); go_simp; (try with_reducible rfl)
              try simp only [Act.put, List.setIfInBounds_toArray, List.set_cons_zero, List.set_cons_succ]
              refine take_yes 17 118 rfl rfl (by kernel_rfl) (by kernel_rfl) (by kernel_rfl) (fun _ _ _ h => h) (by rfl) (by assumption) (v := ?_) ?_ ?_
              rotate_left
              · intro w hSw; (try dsimp only at hSw); go_simp; (try with_reducible rfl)
              try simp only [Act.put, List.setIfInBounds_toArray, List.set_cons_zero, List.set_cons_succ]
              refine take_yes 18 119 rfl rfl (by kernel_rfl) (by kernel_rfl) (by kernel_rfl) (fun _ _ _ h => h) (by rfl) (by assumption) (v := ?_) ?_ ?_
              rotate_left
              · intro w hSw; (try dsimp only at hSw); go_simp; (try with_reducible rfl)
              try simp only [Act.put, List.setIfInBounds_toArray, List.set_cons_zero, List.set_cons_succ]
              refine take_yes 19 120 rfl rfl (by kernel_rfl) (by kernel_rfl) (by kernel_rfl) (fun _ _ _ h => h) (by rfl) (by assumption) (v := ?_) ?_ ?_
              rotate_left
              · intro w hSw; (try dsimp only at hSw); go_simp; (try with_reducible rfl)
              try simp only [Act.put, List.setIfInBounds_toArray, List.set_cons_zero, List.set_cons_succ]
              refine take_yes 20 121 rfl rfl (by kernel_rfl) (by kernel_rfl) (by kernel_rfl) (fun _ _ _ h => h) (by rfl) (by assumption) (v := .bool true) ?_ ?_
              · intro w hSw; (try dsimp only at hSw); go_simp
              try simp only [Act.put, List.setIfInBounds_toArray, List.set_cons_zero, List.set_cons_succ]
              refine take_yes 21 122 rfl rfl (by kernel_rfl) (by kernel_rfl) (by kernel_rfl) (fun _ _ _ h => h) (by rfl) (by assumption) (v := ?_) ?_ ?_
              rotate_left
              · intro w hSw; (try dsimp only at hSw); go_simp; (try with_reducible rfl)
              try simp only [Act.put, List.setIfInBounds_toArray, List.set_cons_zero, List.set_cons_succ]
              refine take_yes 22 100 rfl rfl (by kernel_rfl) (by kernel_rfl) (by kernel_rfl) (fun _ _ _ h => h) (by rfl) (by assumption) (v := ?_) ?_ ?_
              rotate_left
              · intro w hSw; (try dsimp only at hSw); go_simp; (try with_reducible rfl)
              try simp only [Act.put, List.setIfInBounds_toArray, List.set_cons_zero, List.set_cons_succ]
              refine wpAnyH_done (by kernel_rfl) ?_ _
              have HF9 := Lib.hid (show Fr [] w8 w8.drew from And.right (by assumption))
              go_wp2_with fail
              refine (EN.out _ HF9.out).mono ?_
              rintro e w10 ⟨rfl, hB10, hF10⟩
              have HZ : Hid (POut w g (pTake (h, o) (⟨k1, k2, k3, k4, k5, k6⟩, ⟨s1, s2, s3, s4, s5, s6⟩, 34915, d0)).2 (pTake (h, o) (⟨k1, k2, k3, k4, k5, k6⟩, ⟨s1, s2, s3, s4, s5, s6⟩, 34915, d0)).1 (.returned (.slice none 0 0)) w10) := Lib.hid (by
                rw [HPT.out, HGT.out]
                exact ⟨OutP.none_ (((HF8.out.trans HF9.out).mono (by simp)).trans hF10), _, hB10, rfl⟩)
              clear hB10 hF10 EN
              go_wp2_with fail
              go_ret
              exact HZ.out
            · have hs2 : (ss == h.ss) = false := by rw [beq_eq_false_iff_ne]; exact hs1
              have HGT : Hid (pGot (h, o) ⟨s1, s2, s3, s4, s5, s6⟩ c ss l = ((h, o), [])) := Lib.hid (by unfold pGot; rw [if_neg hwhy, if_neg hwhy2, if_neg (fun hh => hs1 hh.2.2.2)])
              have HX : Hid (∀ W, Fr [] w8 W → POut w g (pTake (h, o) (⟨k1, k2, k3, k4, k5, k6⟩, ⟨s1, s2, s3, s4, s5, s6⟩, 34915, d0)).2 (pTake (h, o) (⟨k1, k2, k3, k4, k5, k6⟩, ⟨s1, s2, s3, s4, s5, s6⟩, 34915, d0)).1 (.returned (.slice none 0 0)) W) := Lib.hid fun W hW => by rw [HPT.out, HGT.out]; exact ⟨OutP.none_ ((HF8.out.trans hW).mono (by simp)), HPH.out W hW⟩
              go_wp2_with fail
              refine wp_region_held_drew (S := (fun W => (W.cell? ⟨g, 10, none⟩ = some (.int .i64 h.st) ∧ W.cell? ⟨g, 17, none⟩ = some (.int .i64 h.ss) ∧ W.cell? ⟨qd, 0, none⟩ = some (.int .i64 c) ∧ W.cell? ⟨qd, 1, none⟩ = some (.int .i64 ss)) ∧ Fr [] w8 W)) (by kernel_rfl) ?_ (fun hHeld => ?_)
              · (try dsimp only); exact HCX.out _ (Fr.refl [] w8).drew
              refine take_yes 0 101 rfl rfl (by kernel_rfl) (by kernel_rfl) (by kernel_rfl) (fun _ _ _ h => h) (by rfl) (by assumption) (v := ?_) ?_ ?_
              rotate_left
              · intro w hSw; (try dsimp only at hSw); go_simp; (try with_reducible rfl)
              try simp only [Act.put, List.setIfInBounds_toArray, List.set_cons_zero, List.set_cons_succ]
              refine take_yes 1 102 rfl rfl (by kernel_rfl) (by kernel_rfl) (by kernel_rfl) (fun _ _ _ h => h) (by rfl) (by assumption) (v := ?_) ?_ ?_
              rotate_left
              · intro w hSw; (try dsimp only at hSw); go_simp; (try with_reducible rfl)
              try simp only [Act.put, List.setIfInBounds_toArray, List.set_cons_zero, List.set_cons_succ]
              refine take_yes 2 103 rfl rfl (by kernel_rfl) (by kernel_rfl) (by kernel_rfl) (fun _ _ _ h => h) (by rfl) (by assumption) (v := ?_) ?_ ?_
              rotate_left
              · intro w hSw; (try dsimp only at hSw); go_simp; (try with_reducible rfl)
              try simp only [Act.put, List.setIfInBounds_toArray, List.set_cons_zero, List.set_cons_succ]
              refine take_yes 3 104 rfl rfl (by kernel_rfl) (by kernel_rfl) (by kernel_rfl) (fun _ _ _ h => h) (by rfl) (by assumption) (v := ?_) ?_ ?_
              rotate_left
              · intro w hSw; (try dsimp only at hSw); go_simp; (try with_reducible rfl)
              try simp only [Act.put, List.setIfInBounds_toArray, List.set_cons_zero, List.set_cons_succ]
              refine take_yes 4 105 rfl rfl (by kernel_rfl) (by kernel_rfl) (by kernel_rfl) (fun _ _ _ h => h) (by rfl) (by assumption) (v := .bool true) ?_ ?_
              · intro w hSw; (try dsimp only at hSw); go_simp
              try simp only [Act.put, List.setIfInBounds_toArray, List.set_cons_zero, List.set_cons_succ]
              refine take_yes 5 106 rfl rfl (by kernel_rfl) (by kernel_rfl) (by kernel_rfl) (fun _ _ _ h => h) (by rfl) (by assumption) (v := ?_) ?_ ?_
              rotate_left
              · intro w hSw; (try dsimp only at hSw); go_simp; (try with_reducible rfl)
              try simp only [Act.put, List.setIfInBounds_toArray, List.set_cons_zero, List.set_cons_succ]
              refine take_yes 6 107 rfl rfl (by kernel_rfl) (by kernel_rfl) (by kernel_rfl) (fun _ _ _ h => h) (by rfl) (by assumption) (v := ?_) ?_ ?_
              rotate_left
              · intro w hSw; (try dsimp only at hSw); go_simp; (try with_reducible rfl)
              try simp only [Act.put, List.setIfInBounds_toArray, List.set_cons_zero, List.set_cons_succ]
              refine take_yes 7 108 rfl rfl (by kernel_rfl) (by kernel_rfl) (by kernel_rfl) (fun _ _ _ h => h) (by rfl) (by assumption) (v := ?_) ?_ ?_
              rotate_left
              · intro w hSw; (try dsimp only at hSw); go_simp; (try with_reducible rfl)
              try simp only [Act.put, List.setIfInBounds_toArray, List.set_cons_zero, List.set_cons_succ]
              refine take_yes 8 109 rfl rfl (by kernel_rfl) (by kernel_rfl) (by kernel_rfl) (fun _ _ _ h => h) (by rfl) (by assumption) (v := .bool true) ?_ ?_
              · intro w hSw; (try dsimp only at hSw); go_simp
              try simp only [Act.put, List.setIfInBounds_toArray, List.set_cons_zero, List.set_cons_succ]
              refine take_yes 9 110 rfl rfl (by kernel_rfl) (by kernel_rfl) (by kernel_rfl) (fun _ _ _ h => h) (by rfl) (by assumption) (v := ?_) ?_ ?_
              rotate_left
              · intro w hSw; (try dsimp only at hSw); go_simp; (try with_reducible rfl)
              try simp only [Act.put, List.setIfInBounds_toArray, List.set_cons_zero, List.set_cons_succ]
              refine take_yes 10 111 rfl rfl (by kernel_rfl) (by kernel_rfl) (by kernel_rfl) (fun _ _ _ h => h) (by rfl) (by assumption) (v := ?_) ?_ ?_
              rotate_left
              · intro w hSw; (try dsimp only at hSw); go_simp; (try with_reducible rfl)
              try simp only [Act.put, List.setIfInBounds_toArray, List.set_cons_zero, List.set_cons_succ]
              refine take_yes 11 112 rfl rfl (by kernel_rfl) (by kernel_rfl) (by kernel_rfl) (fun _ _ _ h => h) (by rfl) (by assumption) (v := ?_) ?_ ?_
              rotate_left
              · intro w hSw; (try dsimp only at hSw); go_simp; (try with_reducible rfl)
              try simp only [Act.put, List.setIfInBounds_toArray, List.set_cons_zero, List.set_cons_succ]
              refine take_yes 12 113 rfl rfl (by kernel_rfl) (by kernel_rfl) (by kernel_rfl) (fun _ _ _ h => h) (by rfl) (by assumption) (v := ?_) ?_ ?_
              rotate_left
              · intro w hSw; (try dsimp only at hSw); go_simp; (try with_reducible rfl)
              try simp only [Act.put, List.setIfInBounds_toArray, List.set_cons_zero, List.set_cons_succ]
              refine take_yes 13 114 rfl rfl (by kernel_rfl) (by kernel_rfl) (by kernel_rfl) (fun _ _ _ h => h) (by rfl) (by assumption) (v := ?_) ?_ ?_
              rotate_left
              · intro w hSw; (try dsimp only at hSw); go_simp; (try with_reducible rfl)
              try simp only [Act.put, List.setIfInBounds_toArray, List.set_cons_zero, List.set_cons_succ]
              refine take_yes 14 115 rfl rfl (by kernel_rfl) (by kernel_rfl) (by kernel_rfl) (fun _ _ _ h => h) (by rfl) (by assumption) (v := ?_) ?_ ?_
              rotate_left
              · intro w hSw; (try dsimp only at hSw); go_simp; (try with_reducible rfl)
              try simp only [Act.put, List.setIfInBounds_toArray, List.set_cons_zero, List.set_cons_succ]
              refine take_yes 15 116 rfl rfl (by kernel_rfl) (by kernel_rfl) (by kernel_rfl) (fun _ _ _ h => h) (by rfl) (by assumption) (v := ?_) ?_ ?_
              rotate_left
              · intro w hSw; (try dsimp only at hSw); go_simp; (try with_reducible rfl)
              try simp only [Act.put, List.setIfInBounds_toArray, List.set_cons_zero, List.set_cons_succ]
              refine take_yes 16 117 rfl rfl (by kernel_rfl) (by kernel_rfl) (by kernel_rfl) (fun _ _ _ h => h) (by rfl) (by assumption) (v := ?_) ?_ ?_
              rotate_left
              · intro w hSw; (try dsimp only at hSw); go_simp; (try with_reducible rfl)
              try simp only [Act.put, List.setIfInBounds_toArray, List.set_cons_zero, List.set_cons_succ]
              refine take_yes 17 118 rfl rfl (by kernel_rfl) (by kernel_rfl) (by kernel_rfl) (fun _ _ _ h => h) (by rfl) (by assumption) (v := ?_) ?_ ?_
              rotate_left
              · intro w hSw; (try dsimp only at hSw); go_simp; (try with_reducible rfl)
              try simp only [Act.put, List.setIfInBounds_toArray, List.set_cons_zero, List.set_cons_succ]
              refine take_yes 18 119 rfl rfl (by kernel_rfl) (by kernel_rfl) (by kernel_rfl) (fun _ _ _ h => h) (by rfl) (by assumption) (v := ?_) ?_ ?_
              rotate_left
              · intro w hSw; (try dsimp only at hSw); go_simp; (try with_reducible rfl)
              try simp only [Act.put, List.setIfInBounds_toArray, List.set_cons_zero, List.set_cons_succ]
              refine take_yes 19 120 rfl rfl (by kernel_rfl) (by kernel_rfl) (by kernel_rfl) (fun _ _ _ h => h) (by rfl) (by assumption) (v := ?_) ?_ ?_
              rotate_left
              · intro w hSw; (try dsimp only at hSw); go_simp; (try with_reducible rfl)
              try simp only [Act.put, List.setIfInBounds_toArray, List.set_cons_zero, List.set_cons_succ]
              refine take_yes 20 121 rfl rfl (by kernel_rfl) (by kernel_rfl) (by kernel_rfl) (fun _ _ _ h => h) (by rfl) (by assumption) (v := .bool false) ?_ ?_
              · intro w hSw; (try dsimp only at hSw); go_simp
              try simp only [Act.put, List.setIfInBounds_toArray, List.set_cons_zero, List.set_cons_succ]
              refine take_yes 21 122 rfl rfl (by kernel_rfl) (by kernel_rfl) (by kernel_rfl) (fun _ _ _ h => h) (by rfl) (by assumption) (v := ?_) ?_ ?_
              rotate_left
              · intro w hSw; (try dsimp only at hSw); go_simp; (try with_reducible rfl)
              try simp only [Act.put, List.setIfInBounds_toArray, List.set_cons_zero, List.set_cons_succ]
              refine take_yes 22 100 rfl rfl (by kernel_rfl) (by kernel_rfl) (by kernel_rfl) (fun _ _ _ h => h) (by rfl) (by assumption) (v := ?_) ?_ ?_
              rotate_left
              · intro w hSw; (try dsimp only at hSw); go_simp; (try with_reducible rfl)
              try simp only [Act.put, List.setIfInBounds_toArray, List.set_cons_zero, List.set_cons_succ]
              refine wpAnyH_done (by kernel_rfl) ?_ _
              have HY := Lib.hid (HX.out _ (And.right (by assumption)))
              go_wp2_with fail
              go_ret
              exact HY.out
        · have hc2 : (c == 167) = false := by rw [beq_eq_false_iff_ne]; exact hc1
          have HGT : Hid (pGot (h, o) ⟨s1, s2, s3, s4, s5, s6⟩ c ss l = ((h, o), [])) := Lib.hid (by unfold pGot; rw [if_neg hwhy, if_neg hwhy2, if_neg (fun hh => hc1 hh.2.1)])
          have HX : Hid (∀ W, Fr [] w8 W → POut w g (pTake (h, o) (⟨k1, k2, k3, k4, k5, k6⟩, ⟨s1, s2, s3, s4, s5, s6⟩, 34915, d0)).2 (pTake (h, o) (⟨k1, k2, k3, k4, k5, k6⟩, ⟨s1, s2, s3, s4, s5, s6⟩, 34915, d0)).1 (.returned (.slice none 0 0)) W) := Lib.hid fun W hW => by rw [HPT.out, HGT.out]; exact ⟨OutP.none_ ((HF8.out.trans hW).mono (by simp)), HPH.out W hW⟩
          go_wp2_with fail
          refine wp_region_held_drew (S := (fun W => (W.cell? ⟨g, 10, none⟩ = some (.int .i64 h.st) ∧ W.cell? ⟨g, 17, none⟩ = some (.int .i64 h.ss) ∧ W.cell? ⟨qd, 0, none⟩ = some (.int .i64 c) ∧ W.cell? ⟨qd, 1, none⟩ = some (.int .i64 ss)) ∧ Fr [] w8 W)) (by kernel_rfl) ?_ (fun hHeld => ?_)
          · (try dsimp only); exact HCX.out _ (Fr.refl [] w8).drew
          refine take_yes 0 101 rfl rfl (by kernel_rfl) (by kernel_rfl) (by kernel_rfl) (fun _ _ _ h => h) (by rfl) (by assumption) (v := ?_) ?_ ?_
          rotate_left
          · intro w hSw; (try dsimp only at hSw); go_simp; (try with_reducible rfl)
          try simp only [Act.put, List.setIfInBounds_toArray, List.set_cons_zero, List.set_cons_succ]
          refine take_yes 1 102 rfl rfl (by kernel_rfl) (by kernel_rfl) (by kernel_rfl) (fun _ _ _ h => h) (by rfl) (by assumption) (v := ?_) ?_ ?_
          rotate_left
          · intro w hSw; (try dsimp only at hSw); go_simp; (try with_reducible rfl)
          try simp only [Act.put, List.setIfInBounds_toArray, List.set_cons_zero, List.set_cons_succ]
          refine take_yes 2 103 rfl rfl (by kernel_rfl) (by kernel_rfl) (by kernel_rfl) (fun _ _ _ h => h) (by rfl) (by assumption) (v := ?_) ?_ ?_
          rotate_left
          · intro w hSw; (try dsimp only at hSw); go_simp; (try with_reducible rfl)
          try simp only [Act.put, List.setIfInBounds_toArray, List.set_cons_zero, List.set_cons_succ]
          refine take_yes 3 104 rfl rfl (by kernel_rfl) (by kernel_rfl) (by kernel_rfl) (fun _ _ _ h => h) (by rfl) (by assumption) (v := ?_) ?_ ?_
          rotate_left
          · intro w hSw; (try dsimp only at hSw); go_simp; (try with_reducible rfl)
          try simp only [Act.put, List.setIfInBounds_toArray, List.set_cons_zero, List.set_cons_succ]
          refine take_yes 4 105 rfl rfl (by kernel_rfl) (by kernel_rfl) (by kernel_rfl) (fun _ _ _ h => h) (by rfl) (by assumption) (v := .bool true) ?_ ?_
          · intro w hSw; (try dsimp only at hSw); go_simp
          try simp only [Act.put, List.setIfInBounds_toArray, List.set_cons_zero, List.set_cons_succ]
          refine take_yes 5 106 rfl rfl (by kernel_rfl) (by kernel_rfl) (by kernel_rfl) (fun _ _ _ h => h) (by rfl) (by assumption) (v := ?_) ?_ ?_
          rotate_left
          · intro w hSw; (try dsimp only at hSw); go_simp; (try with_reducible rfl)
          try simp only [Act.put, List.setIfInBounds_toArray, List.set_cons_zero, List.set_cons_succ]
          refine take_yes 6 107 rfl rfl (by kernel_rfl) (by kernel_rfl) (by kernel_rfl) (fun _ _ _ h => h) (by rfl) (by assumption) (v := ?_) ?_ ?_
          rotate_left
          · intro w hSw; (try dsimp only at hSw); go_simp; (try with_reducible rfl)
          try simp only [Act.put, List.setIfInBounds_toArray, List.set_cons_zero, List.set_cons_succ]
          refine take_yes 7 108 rfl rfl (by kernel_rfl) (by kernel_rfl) (by kernel_rfl) (fun _ _ _ h => h) (by rfl) (by assumption) (v := ?_) ?_ ?_
          rotate_left
          · intro w hSw; (try dsimp only at hSw); go_simp; (try with_reducible rfl)
          try simp only [Act.put, List.setIfInBounds_toArray, List.set_cons_zero, List.set_cons_succ]
          refine take_yes 8 109 rfl rfl (by kernel_rfl) (by kernel_rfl) (by kernel_rfl) (fun _ _ _ h => h) (by rfl) (by assumption) (v := .bool false) ?_ ?_
          · intro w hSw; (try dsimp only at hSw); go_simp
          try simp only [Act.put, List.setIfInBounds_toArray, List.set_cons_zero, List.set_cons_succ]
          refine take_yes 9 110 rfl rfl (by kernel_rfl) (by kernel_rfl) (by kernel_rfl) (fun _ _ _ h => h) (by rfl) (by assumption) (v := ?_) ?_ ?_
          rotate_left
          · intro w hSw; (try dsimp only at hSw); go_simp; (try with_reducible rfl)
          try simp only [Act.put, List.setIfInBounds_toArray, List.set_cons_zero, List.set_cons_succ]
          refine take_yes 10 111 rfl rfl (by kernel_rfl) (by kernel_rfl) (by kernel_rfl) (fun _ _ _ h => h) (by rfl) (by assumption) (v := ?_) ?_ ?_
          rotate_left
          · intro w hSw; (try dsimp only at hSw); go_simp; (try with_reducible rfl)
          try simp only [Act.put, List.setIfInBounds_toArray, List.set_cons_zero, List.set_cons_succ]
          refine take_no 11 112 rfl rfl (by kernel_rfl) (by kernel_rfl) (by kernel_rfl) (fun _ _ _ h => h) (by rfl) (by assumption) ?_
          try simp only [Act.put, List.setIfInBounds_toArray, List.set_cons_zero, List.set_cons_succ]
          refine take_yes 12 113 rfl rfl (by kernel_rfl) (by kernel_rfl) (by kernel_rfl) (fun _ _ _ h => h) (by rfl) (by assumption) (v := ?_) ?_ ?_
          rotate_left
          · intro w hSw; (try dsimp only at hSw); go_simp; (try with_reducible rfl)
          try simp only [Act.put, List.setIfInBounds_toArray, List.set_cons_zero, List.set_cons_succ]
          refine take_yes 13 114 rfl rfl (by kernel_rfl) (by kernel_rfl) (by kernel_rfl) (fun _ _ _ h => h) (by rfl) (by assumption) (v := ?_) ?_ ?_
          rotate_left
          · intro w hSw; (try dsimp only at hSw); go_simp; (try with_reducible rfl)
          try simp only [Act.put, List.setIfInBounds_toArray, List.set_cons_zero, List.set_cons_succ]
          refine take_no 14 115 rfl rfl (by kernel_rfl) (by kernel_rfl) (by kernel_rfl) (fun _ _ _ h => h) (by rfl) (by assumption) ?_
          try simp only [Act.put, List.setIfInBounds_toArray, List.set_cons_zero, List.set_cons_succ]
          refine take_no 15 116 rfl rfl (by kernel_rfl) (by kernel_rfl) (by kernel_rfl) (fun _ _ _ h => h) (by rfl) (by assumption) ?_
          try simp only [Act.put, List.setIfInBounds_toArray, List.set_cons_zero, List.set_cons_succ]
          refine take_no 16 117 rfl rfl (by kernel_rfl) (by kernel_rfl) (by kernel_rfl) (fun _ _ _ h => h) (by rfl) (by assumption) ?_
          try simp only [Act.put, List.setIfInBounds_toArray, List.set_cons_zero, List.set_cons_succ]
          refine take_no 17 118 rfl rfl (by kernel_rfl) (by kernel_rfl) (by kernel_rfl) (fun _ _ _ h => h) (by rfl) (by assumption) ?_
          try simp only [Act.put, List.setIfInBounds_toArray, List.set_cons_zero, List.set_cons_succ]
          refine take_no 18 119 rfl rfl (by kernel_rfl) (by kernel_rfl) (by kernel_rfl) (fun _ _ _ h => h) (by rfl) (by assumption) ?_
          try simp only [Act.put, List.setIfInBounds_toArray, List.set_cons_zero, List.set_cons_succ]
          refine take_no 19 120 rfl rfl (by kernel_rfl) (by kernel_rfl) (by kernel_rfl) (fun _ _ _ h => h) (by rfl) (by assumption) ?_
          try simp only [Act.put, List.setIfInBounds_toArray, List.set_cons_zero, List.set_cons_succ]
          refine take_no 20 121 rfl rfl (by kernel_rfl) (by kernel_rfl) (by kernel_rfl) (fun _ _ _ h => h) (by rfl) (by assumption) ?_
          try simp only [Act.put, List.setIfInBounds_toArray, List.set_cons_zero, List.set_cons_succ]
          refine take_yes 21 122 rfl rfl (by kernel_rfl) (by kernel_rfl) (by kernel_rfl) (fun _ _ _ h => h) (by rfl) (by assumption) (v := ?_) ?_ ?_
          rotate_left
          · intro w hSw; (try dsimp only at hSw); go_simp; (try with_reducible rfl)
          try simp only [Act.put, List.setIfInBounds_toArray, List.set_cons_zero, List.set_cons_succ]
          refine take_yes 22 100 rfl rfl (by kernel_rfl) (by kernel_rfl) (by kernel_rfl) (fun _ _ _ h => h) (by rfl) (by assumption) (v := ?_) ?_ ?_
          rotate_left
          · intro w hSw; (try dsimp only at hSw); go_simp; (try with_reducible rfl)
          try simp only [Act.put, List.setIfInBounds_toArray, List.set_cons_zero, List.set_cons_succ]
          refine wpAnyH_done (by kernel_rfl) ?_ _
          have HY := Lib.hid (HX.out _ (And.right (by assumption)))
          go_wp2_with fail
          go_ret
          exact HY.out
      have e1 : (h.st == 1) = false := by rw [beq_eq_false_iff_ne]; exact h1
      have e2 : (h.st == 2) = false := by rw [beq_eq_false_iff_ne]; exact h2
      have e3 : (h.st == 3) = false := by rw [beq_eq_false_iff_ne]; exact h3
      have HGT : Hid (pGot (h, o) ⟨s1, s2, s3, s4, s5, s6⟩ c ss l = ((h, o), [])) := Lib.hid (by unfold pGot; rw [if_neg (fun hh => h1 hh.1), if_neg (fun hh => h2 hh.1), if_neg (fun hh => h3 hh.1)])
      have HX : Hid (∀ W, Fr [] w8 W → POut w g (pTake (h, o) (⟨k1, k2, k3, k4, k5, k6⟩, ⟨s1, s2, s3, s4, s5, s6⟩, 34915, d0)).2 (pTake (h, o) (⟨k1, k2, k3, k4, k5, k6⟩, ⟨s1, s2, s3, s4, s5, s6⟩, 34915, d0)).1 (.returned (.slice none 0 0)) W) := Lib.hid fun W hW => by rw [HPT.out, HGT.out]; exact ⟨OutP.none_ ((HF8.out.trans hW).mono (by simp)), HPH.out W hW⟩
      go_wp2_with fail
      refine wp_region_held_drew (S := (fun W => (W.cell? ⟨g, 10, none⟩ = some (.int .i64 h.st) ∧ W.cell? ⟨g, 17, none⟩ = some (.int .i64 h.ss) ∧ W.cell? ⟨qd, 0, none⟩ = some (.int .i64 c) ∧ W.cell? ⟨qd, 1, none⟩ = some (.int .i64 ss)) ∧ Fr [] w8 W)) (by kernel_rfl) ?_ (fun hHeld => ?_)
      · (try dsimp only); exact HCX.out _ (Fr.refl [] w8).drew
      refine take_yes 0 101 rfl rfl (by kernel_rfl) (by kernel_rfl) (by kernel_rfl) (fun _ _ _ h => h) (by rfl) (by assumption) (v := ?_) ?_ ?_
      rotate_left
      · intro w hSw; (try dsimp only at hSw); go_simp; (try with_reducible rfl)
      try simp only [Act.put, List.setIfInBounds_toArray, List.set_cons_zero, List.set_cons_succ]
      refine take_yes 1 102 rfl rfl (by kernel_rfl) (by kernel_rfl) (by kernel_rfl) (fun _ _ _ h => h) (by rfl) (by assumption) (v := ?_) ?_ ?_
      rotate_left
      · intro w hSw; (try dsimp only at hSw); go_simp; (try with_reducible rfl)
      try simp only [Act.put, List.setIfInBounds_toArray, List.set_cons_zero, List.set_cons_succ]
      refine take_yes 2 103 rfl rfl (by kernel_rfl) (by kernel_rfl) (by kernel_rfl) (fun _ _ _ h => h) (by rfl) (by assumption) (v := ?_) ?_ ?_
      rotate_left
      · intro w hSw; (try dsimp only at hSw); go_simp; (try with_reducible rfl)
      try simp only [Act.put, List.setIfInBounds_toArray, List.set_cons_zero, List.set_cons_succ]
      refine take_yes 3 104 rfl rfl (by kernel_rfl) (by kernel_rfl) (by kernel_rfl) (fun _ _ _ h => h) (by rfl) (by assumption) (v := ?_) ?_ ?_
      rotate_left
      · intro w hSw; (try dsimp only at hSw); go_simp; (try with_reducible rfl)
      try simp only [Act.put, List.setIfInBounds_toArray, List.set_cons_zero, List.set_cons_succ]
      refine take_yes 4 105 rfl rfl (by kernel_rfl) (by kernel_rfl) (by kernel_rfl) (fun _ _ _ h => h) (by rfl) (by assumption) (v := .bool false) ?_ ?_
      · intro w hSw; (try dsimp only at hSw); go_simp
      try simp only [Act.put, List.setIfInBounds_toArray, List.set_cons_zero, List.set_cons_succ]
      refine take_yes 5 106 rfl rfl (by kernel_rfl) (by kernel_rfl) (by kernel_rfl) (fun _ _ _ h => h) (by rfl) (by assumption) (v := ?_) ?_ ?_
      rotate_left
      · intro w hSw; (try dsimp only at hSw); go_simp; (try with_reducible rfl)
      try simp only [Act.put, List.setIfInBounds_toArray, List.set_cons_zero, List.set_cons_succ]
      refine take_no 6 107 rfl rfl (by kernel_rfl) (by kernel_rfl) (by kernel_rfl) (fun _ _ _ h => h) (by rfl) (by assumption) ?_
      try simp only [Act.put, List.setIfInBounds_toArray, List.set_cons_zero, List.set_cons_succ]
      refine take_no 7 108 rfl rfl (by kernel_rfl) (by kernel_rfl) (by kernel_rfl) (fun _ _ _ h => h) (by rfl) (by assumption) ?_
      try simp only [Act.put, List.setIfInBounds_toArray, List.set_cons_zero, List.set_cons_succ]
      refine take_no 8 109 rfl rfl (by kernel_rfl) (by kernel_rfl) (by kernel_rfl) (fun _ _ _ h => h) (by rfl) (by assumption) ?_
      try simp only [Act.put, List.setIfInBounds_toArray, List.set_cons_zero, List.set_cons_succ]
      refine take_yes 9 110 rfl rfl (by kernel_rfl) (by kernel_rfl) (by kernel_rfl) (fun _ _ _ h => h) (by rfl) (by assumption) (v := ?_) ?_ ?_
      rotate_left
      · intro w hSw; (try dsimp only at hSw); go_simp; (try with_reducible rfl)
      try simp only [Act.put, List.setIfInBounds_toArray, List.set_cons_zero, List.set_cons_succ]
      refine take_yes 10 111 rfl rfl (by kernel_rfl) (by kernel_rfl) (by kernel_rfl) (fun _ _ _ h => h) (by rfl) (by assumption) (v := ?_) ?_ ?_
      rotate_left
      · intro w hSw; (try dsimp only at hSw); go_simp; (try with_reducible rfl)
      try simp only [Act.put, List.setIfInBounds_toArray, List.set_cons_zero, List.set_cons_succ]
      refine take_no 11 112 rfl rfl (by kernel_rfl) (by kernel_rfl) (by kernel_rfl) (fun _ _ _ h => h) (by rfl) (by assumption) ?_
      try simp only [Act.put, List.setIfInBounds_toArray, List.set_cons_zero, List.set_cons_succ]
      refine take_yes 12 113 rfl rfl (by kernel_rfl) (by kernel_rfl) (by kernel_rfl) (fun _ _ _ h => h) (by rfl) (by assumption) (v := ?_) ?_ ?_
      rotate_left
      · intro w hSw; (try dsimp only at hSw); go_simp; (try with_reducible rfl)
      try simp only [Act.put, List.setIfInBounds_toArray, List.set_cons_zero, List.set_cons_succ]
      refine take_yes 13 114 rfl rfl (by kernel_rfl) (by kernel_rfl) (by kernel_rfl) (fun _ _ _ h => h) (by rfl) (by assumption) (v := ?_) ?_ ?_
      rotate_left
      · intro w hSw; (try dsimp only at hSw); go_simp; (try with_reducible rfl)
      try simp only [Act.put, List.setIfInBounds_toArray, List.set_cons_zero, List.set_cons_succ]
      refine take_no 14 115 rfl rfl (by kernel_rfl) (by kernel_rfl) (by kernel_rfl) (fun _ _ _ h => h) (by rfl) (by assumption) ?_
      try simp only [Act.put, List.setIfInBounds_toArray, List.set_cons_zero, List.set_cons_succ]
      refine take_no 15 116 rfl rfl (by kernel_rfl) (by kernel_rfl) (by kernel_rfl) (fun _ _ _ h => h) (by rfl) (by assumption) ?_
      try simp only [Act.put, List.setIfInBounds_toArray, List.set_cons_zero, List.set_cons_succ]
      refine take_no 16 117 rfl rfl (by kernel_rfl) (by kernel_rfl) (by kernel_rfl) (fun _ _ _ h => h) (by rfl) (by assumption) ?_
      try simp only [Act.put, List.setIfInBounds_toArray, List.set_cons_zero, List.set_cons_succ]
      refine take_no 17 118 rfl rfl (by kernel_rfl) (by kernel_rfl) (by kernel_rfl) (fun _ _ _ h => h) (by rfl) (by assumption) ?_
      try simp only [Act.put, List.setIfInBounds_toArray, List.set_cons_zero, List.set_cons_succ]
      refine take_no 18 119 rfl rfl (by kernel_rfl) (by kernel_rfl) (by kernel_rfl) (fun _ _ _ h => h) (by rfl) (by assumption) ?_
      try simp only [Act.put, List.setIfInBounds_toArray, List.set_cons_zero, List.set_cons_succ]
      refine take_no 19 120 rfl rfl (by kernel_rfl) (by kernel_rfl) (by kernel_rfl) (fun _ _ _ h => h) (by rfl) (by assumption) ?_
      try simp only [Act.put, List.setIfInBounds_toArray, List.set_cons_zero, List.set_cons_succ]
      refine take_no 20 121 rfl rfl (by kernel_rfl) (by kernel_rfl) (by kernel_rfl) (fun _ _ _ h => h) (by rfl) (by assumption) ?_
      try simp only [Act.put, List.setIfInBounds_toArray, List.set_cons_zero, List.set_cons_succ]
      refine take_yes 21 122 rfl rfl (by kernel_rfl) (by kernel_rfl) (by kernel_rfl) (fun _ _ _ h => h) (by rfl) (by assumption) (v := ?_) ?_ ?_
      rotate_left
      · intro w hSw; (try dsimp only at hSw); go_simp; (try with_reducible rfl)
      try simp only [Act.put, List.setIfInBounds_toArray, List.set_cons_zero, List.set_cons_succ]
      refine take_yes 22 100 rfl rfl (by kernel_rfl) (by kernel_rfl) (by kernel_rfl) (fun _ _ _ h => h) (by rfl) (by assumption) (v := ?_) ?_ ?_
      rotate_left
      · intro w hSw; (try dsimp only at hSw); go_simp; (try with_reducible rfl)
      try simp only [Act.put, List.setIfInBounds_toArray, List.set_cons_zero, List.set_cons_succ]
      refine wpAnyH_done (by kernel_rfl) ?_ _
      have HY := Lib.hid (HX.out _ (And.right (by assumption)))
      go_wp2_with fail
      go_ret
      exact HY.out
theorem ptake_any (f : Et) (o : Option (List UInt8)) (hi : HI (h, o)) (hd0 : f.d.length ≤ 3000) (hB : Blk w g (hsC h ck) 92) (hck : CkV w o ck) :
    Calls Try.prog 19 #[.pointer (some ⟨g, 0, none⟩), .agg (etC f)] w (POut w g (pTake (h, o) (etT f)).2 (pTake (h, o) (etT f)).1) := by
  have hw : h.wt ≠ 0 := by have := hi.wt.1; simp only at this; omega
  obtain ⟨k, s, ty, d0⟩ := f
  by_cases hty : ty = 34915
  · subst hty
    by_cases hk : mcEq k h.m = true
    · exact take_mine k s d0 o hi hd0 hk hB hck
    · exact PhIs.nil o _ hw (readF_no fun hh => hk hh.2) hB hck (take_other _ hw (fun e => hk ((mcEq_iff _ _).2 e)) hB)
  · exact PhIs.nil o _ hw (readF_no fun hh => hty hh.1) hB hck (take_ty _ hw hty hB)
end
end Go.Proofs.Ytcdencpkgfehlaa
