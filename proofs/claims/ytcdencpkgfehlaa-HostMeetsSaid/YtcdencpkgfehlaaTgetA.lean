/- tag.Get of any bytes (printed by tools/gen_tgeta.py out of TagH). -/
import Derived.Test.YtcdencpkgfehlaaTagG
import Derived.Test.YtcdencpkgfehlaaEqEth
namespace Go.Proofs.Ytcdencpkgfehlaa
open Go.RowKit
set_option linter.unusedVariables false
/-- a packet of discovery, if bytes hold one -/
def pkt (b : List UInt8) : Option (Int × Int × List UInt8) :=
  if b.length < 6 then none else if b.getD 0 0 ≠ 17 then none else if 1494 < getV b 4 2 then none else if (b.length : Int) - 6 < getV b 4 2 then none
  else some (((b.getD 1 0).toNat : Int), getV b 2 2, (b.drop 6).take (getV b 4 2).toNat)
theorem be_pair (x y : UInt8) : be 2 ((0 * 256 + (x.toNat : Int)) * 256 + (y.toNat : Int)) = [x, y] := by
  have hx := x.toNat_lt
  have hy := y.toNat_lt
  have e1 : (((0 * 256 + (x.toNat : Int)) * 256 + (y.toNat : Int)) / 256 % 256).toNat = x.toNat := by omega
  have e2 : (((0 * 256 + (x.toNat : Int)) * 256 + (y.toNat : Int)) % 256).toNat = y.toNat := by omega
  simp only [be, List.nil_append, e1, e2, UInt8.ofNat_toNat, List.cons_append]
theorem six_of (b : List UInt8) (h : ¬ b.length < 6) : ∃ x0 x1 x2 x3 x4 x5 r, b = x0 :: x1 :: x2 :: x3 :: x4 :: x5 :: r := by
  rcases b with _ | ⟨x0, b⟩
  · simp at h
  rcases b with _ | ⟨x1, b⟩
  · simp at h
  rcases b with _ | ⟨x2, b⟩
  · simp at h
  rcases b with _ | ⟨x3, b⟩
  · simp at h
  rcases b with _ | ⟨x4, b⟩
  · simp at h
  rcases b with _ | ⟨x5, b⟩
  · simp at h
  exact ⟨x0, x1, x2, x3, x4, x5, b, rfl⟩
theorem bytesOf_one (x : UInt8) : UInt8.ofNat ((x.toNat : Int)).toNat = x := by simp
theorem pkt_some {b : List UInt8} {c ss : Int} {d : List UInt8} (h : pkt b = some (c, ss, d)) : ∃ t, b = discB c ss d ++ t ∧ (0 ≤ c ∧ c ≤ 255) ∧ (0 ≤ ss ∧ ss ≤ 65535) ∧ d.length ≤ 1494 := by
  unfold pkt at h
  by_cases h1 : b.length < 6
  · rw [if_pos h1] at h; cases h
  rw [if_neg h1] at h
  by_cases h2 : b.getD 0 0 ≠ 17
  · rw [if_pos h2] at h; cases h
  rw [if_neg h2] at h
  by_cases h3 : 1494 < getV b 4 2
  · rw [if_pos h3] at h; cases h
  rw [if_neg h3] at h
  by_cases h4 : (b.length : Int) - 6 < getV b 4 2
  · rw [if_pos h4] at h; cases h
  rw [if_neg h4] at h
  obtain ⟨x0, x1, x2, x3, x4, x5, r, rfl⟩ := six_of b h1
  have g4 : getV (x0 :: x1 :: x2 :: x3 :: x4 :: x5 :: r) 4 2 = (0 * 256 + (x4.toNat : Int)) * 256 + (x5.toNat : Int) := rfl
  have g2 : getV (x0 :: x1 :: x2 :: x3 :: x4 :: x5 :: r) 2 2 = (0 * 256 + (x2.toNat : Int)) * 256 + (x3.toNat : Int) := rfl
  have h0 : x0 = 17 := by simpa using h2
  have v4 := getV_bd (x0 :: x1 :: x2 :: x3 :: x4 :: x5 :: r) 4 2
  have v2 := getV_bd (x0 :: x1 :: x2 :: x3 :: x4 :: x5 :: r) 2 2
  have b1 := byte_bd x1
  injection h with h
  injection h with e1 h
  injection h with e2 e3
  obtain ⟨n, hn⟩ : ∃ n, getV (x0 :: x1 :: x2 :: x3 :: x4 :: x5 :: r) 4 2 = n := ⟨_, rfl⟩
  obtain ⟨s, hs⟩ : ∃ n, getV (x0 :: x1 :: x2 :: x3 :: x4 :: x5 :: r) 2 2 = n := ⟨_, rfl⟩
  rw [hn] at h3 h4 e3 v4 g4
  rw [hs] at e2 v2 g2
  have e1 : (x1.toNat : Int) = c := e1
  have e3 : r.take n.toNat = d := e3
  have hl : ((x0 :: x1 :: x2 :: x3 :: x4 :: x5 :: r).length : Int) = r.length + 6 := by simp; omega
  rw [hl] at h4
  have hdl : (d.length : Int) = n := by rw [← e3, List.length_take]; omega
  refine ⟨r.drop n.toNat, ?_, by omega, by omega, by omega⟩
  have q1 : be 2 (d.length : Int) = [x4, x5] := by rw [hdl, g4, be_pair]
  have q2 : be 2 ss = [x2, x3] := by rw [← e2, g2, be_pair]
  have q3 : bytesOf [17, c] = [17, x1] := by rw [← e1]; show [UInt8.ofNat _, UInt8.ofNat ((x1.toNat : Int)).toNat] = _; rw [bytesOf_one]; rfl
  unfold discB
  rw [q1, q2, q3, h0]
  show _ = 17 :: x1 :: x2 :: x3 :: x4 :: x5 :: (d ++ r.drop n.toNat)
  rw [← e3, List.take_append_drop]
theorem pkt_none {b : List UInt8} (h : pkt b = none) : b.length < 6 ∨ ∃ x r, b = x :: r ∧ 5 ≤ r.length ∧ (x ≠ 17 ∨ x = 17 ∧ (1494 < getV b 4 2 ∨ ¬ 1494 < getV b 4 2 ∧ (b.length : Int) - 6 < getV b 4 2)) := by
  unfold pkt at h
  by_cases h1 : b.length < 6
  · exact Or.inl h1
  rw [if_neg h1] at h
  cases b with
  | nil => exact absurd (by simp) h1
  | cons x r =>
    refine Or.inr ⟨x, r, rfl, by simp at h1; omega, ?_⟩
    by_cases h2 : x = 17
    · rw [if_neg (by simpa using h2)] at h
      refine Or.inr ⟨h2, ?_⟩
      by_cases h3 : 1494 < getV (x :: r) 4 2
      · exact Or.inl h3
      · rw [if_neg h3] at h
        refine Or.inr ⟨h3, ?_⟩
        by_cases h4 : (((x :: r).length : Int)) - 6 < getV (x :: r) 4 2
        · exact h4
        · rw [if_neg h4] at h; cases h
    · exact Or.inl h2
theorem num_any (L : List UInt8) (k : Nat) (W : World) (hk : k + 2 ≤ L.length) (hl : L.length ≤ 9223372036854775807) :
    Calls Try.prog 67 #[.string (B L), .int .i64 k] W fun e w' => e = .returned (.int .i64 (getV L k 2)) ∧ w' = W := by
  have G := Lib.hid fun W => get_2 L k W hk hl
  obtain ⟨v, hv⟩ : ∃ v, getV L k 2 = v := ⟨_, rfl⟩
  rw [hv] at G ⊢
  clear hk hl hv
  go_enter Try.func67, Try.ntmps67
  go_wp2_with fail
  refine (G.out _).mono ?_
  rintro e w1 ⟨rfl, rfl⟩
  go_wp2_with fail
  go_ret
  exact ⟨rfl, rfl⟩
section
variable {w : World}
set_option maxRecDepth 100000 in
set_option maxHeartbeats 8000000 in
theorem tget_laid (c ss : Int) (d tl : List UInt8) (htl : (tl.length : Int) ≤ 3000) (hc0 : 0 ≤ c) (hc1 : c ≤ 255) (hs0 : 0 ≤ ss) (hs1 : ss ≤ 65535) (hd : d.length ≤ 1494) :
    Calls Try.prog 40 #[.string (Go.Proofs.Ytcdencpkgfehlaa.B (discB c ss d ++ tl))] w fun e w' => e = .returned (.tuple #[.agg #[.int .i64 c, .int .i64 ss, .string (Go.Proofs.Ytcdencpkgfehlaa.B d)], .int .i64 0]) ∧ Fr [] w w' := by
  have hle : ¬ (d.length : Int) > 1494 := by omega
  have f1 : IntKind.i64.wrap (6 + (d.length : Int)) = 6 + (d.length : Int) := by rw [IntKind.wrap_i64]; omega
  have f0 : wrap64 (6 + (d.length : Int)) = 6 + (d.length : Int) := by unfold wrap64; omega
  have f2 : (6 : Int) + (d.length : Int) ≤ (d.length : Int) + (tl.length : Int) + 4 + 1 + 1 := by omega
  have f6 : (1 : Int) < (d.length : Int) + (tl.length : Int) + 4 + 1 + 1 := by omega
  have f3 : (0 : Int) ≤ 6 + (d.length : Int) := by omega
  have f4 : (6 : Int) ≤ 6 + (d.length : Int) := by omega
  have f5 : (6 + (d.length : Int)).toNat = 6 + d.length := by omega
  obtain ⟨R, hR⟩ : ∃ R, be 2 ss ++ (be 2 (d.length : Int) ++ (d ++ tl)) = R := ⟨_, rfl⟩
  obtain ⟨cb, hcb⟩ : ∃ x, UInt8.ofNat c.toNat = x := ⟨_, rfl⟩
  have hL : discB c ss d ++ tl = 17 :: cb :: R := by rw [← hR, ← hcb, show discB c ss d = 17 :: UInt8.ofNat c.toNat :: (be 2 ss ++ (be 2 (d.length : Int) ++ d)) from rfl]; simp only [List.cons_append, List.append_assoc]
  have hRl : R.length = d.length + tl.length + 4 := by rw [← hR]; simp [be_length]; omega
  have hcn : (cb.toNat : Int) = c := by rw [← hcb, UInt8.toNat_ofNat']; omega
  have hLl : (17 :: cb :: R).length = d.length + tl.length + 6 := by simp [hRl]
  have N2 : Hid (∀ (v : Int) W, v = 2 → Calls Try.prog 67 #[.string (Go.Proofs.Ytcdencpkgfehlaa.B (17 :: cb :: R)), .int .i64 v] W fun e w' => e = .returned (.int .i64 ss) ∧ w' = W) := Lib.hid fun v W hv => hv ▸
    num_at _ [17, cb] (be 2 (d.length : Int) ++ (d ++ tl)) ss 2 W (by rw [← hR]; rfl) rfl hs0 (by omega) (by omega)
  have N4 : Hid (∀ (v : Int) W, v = 4 → Calls Try.prog 67 #[.string (Go.Proofs.Ytcdencpkgfehlaa.B (17 :: cb :: R)), .int .i64 v] W fun e w' => e = .returned (.int .i64 (d.length : Int)) ∧ w' = W) := Lib.hid fun v W hv => hv ▸
    num_at _ (17 :: cb :: be 2 ss) (d ++ tl) (d.length : Int) 4 W (by rw [← hR]; simp) (by simp [be_length]) (by omega) (by omega) (by omega)
  have hdrop : (17 :: cb :: R).drop 6 = d ++ tl := by
    rw [← hR]
    show (be 2 ss ++ (be 2 (d.length : Int) ++ (d ++ tl))).drop 4 = d ++ tl
    rw [← List.append_assoc, List.drop_append_of_le_length (by simp [be_length]), List.drop_of_length_le (by simp [be_length]), List.nil_append]
  have CL : Hid (∀ s W, s = Go.Proofs.Ytcdencpkgfehlaa.B d → Calls Try.prog 35 #[.string s] W fun e w' => e = .returned (.string (Go.Proofs.Ytcdencpkgfehlaa.B d)) ∧ Fr [] W w') := Lib.hid fun s W hs => by
    subst hs; exact clone_any d W (by omega)
  have hd4 : R.drop 4 = d ++ tl := hdrop
  have HD : Hid (Go.Proofs.Ytcdencpkgfehlaa.B (List.take d.length (List.drop 4 R)) = Go.Proofs.Ytcdencpkgfehlaa.B d) := Lib.hid (by rw [hd4, List.take_left])
  have hw : wrap64 (cb.toNat : Int) = c := by clear f0 f1 f2 f3 f4 f5 f6 hle hRl hLl hL hdrop hd4 htl N2 N4 CL HD; rw [hcn]; unfold wrap64; omega
  have hwi : IntKind.i64.wrap (cb.toNat : Int) = c := by clear f0 f1 f2 f3 f4 f5 f6 hle hRl hLl hL hdrop hd4 htl hw N2 N4 CL HD; rw [hcn, IntKind.wrap_i64]; omega
  rw [hL]
  clear hd4 hR hcb hL hdrop hcn hLl hs0 hs1 hc0 hc1
  have hF := (Fr.refl [] w).alloc (.cells #[.int .i64 0, .int .i64 0, .string ⟨#[]⟩] 72 (0, 0))
  have hN := Blk.new w #[.int .i64 0, .int .i64 0, .string ⟨#[]⟩] 72
  go_enter Try.func40, Try.ntmps40
  go_wp2_with fail
  refine (N4.out _ _ (by with_reducible rfl)).mono ?_
  rintro e w1 ⟨rfl, rfl⟩
  go_wp2_with fail
  refine (N4.out _ _ (by with_reducible rfl)).mono ?_
  rintro e w1 ⟨rfl, rfl⟩
  go_wp2_with fail
  obtain ⟨q, hq⟩ : ∃ q, w.heap.size = q := ⟨_, rfl⟩
  obtain ⟨W3, hW3⟩ : ∃ W, w.alloc (.cells #[.int .i64 0, .int .i64 0, .string ⟨#[]⟩] 72 (0, 0)) = W := ⟨_, rfl⟩
  rw [hq] at hN ⊢
  rw [hW3] at hN hF ⊢
  have HF := Lib.hid hF
  have HQ := Lib.hid hq
  clear hq hW3 hF
  refine wp_region_held_drew (S := fun W => Fr [q] W3 W) (by kernel_rfl) ?_ (fun hHeld => ?_)
  · (try dsimp only); exact (Fr.refl _ _).drew
  have hN1 : Blk W3.drew q #[.int .i64 0, .int .i64 0, .string ⟨#[]⟩] 72 := hN.drew
  obtain ⟨v0, hv⟩ : ∃ V, W3.drew = V := ⟨_, rfl⟩
  have hF1 : Fr [] W3 v0 := by rw [← hv]; exact (Fr.refl _ _).drew
  rw [hv] at hHeld hN1 ⊢
  clear hv hN
  refine take_yes 0 27 rfl rfl (by kernel_rfl) (by kernel_rfl) (by kernel_rfl) (fun _ _ _ h => h) (by rfl) (by assumption) (v := ?_) ?_ ?_
  rotate_left
  · intro w hSw; (try dsimp only at hSw); go_simp; (try with_reducible rfl)
  try simp only [Act.put, List.setIfInBounds_toArray, List.set_cons_zero, List.set_cons_succ]
  refine take_yes 1 28 rfl rfl (by kernel_rfl) (by kernel_rfl) (by kernel_rfl) (fun _ _ _ h => h) (by rfl) (by assumption) (v := ?_) ?_ ?_
  rotate_left
  · intro w hSw; (try dsimp only at hSw); go_simp; (try with_reducible rfl)
  try simp only [Act.put, List.setIfInBounds_toArray, List.set_cons_zero, List.set_cons_succ]
  refine take_yes 2 29 rfl rfl (by kernel_rfl) (by kernel_rfl) (by kernel_rfl) (fun _ _ _ h => h) (by rfl) (by assumption) (v := ?_) ?_ ?_
  rotate_left
  · intro w hSw; (try dsimp only at hSw); go_simp; (try with_reducible rfl)
  try simp only [Act.put, List.setIfInBounds_toArray, List.set_cons_zero, List.set_cons_succ]
  refine take_yes 3 30 rfl rfl (by kernel_rfl) (by kernel_rfl) (by kernel_rfl) (fun _ _ _ h => h) (by rfl) (by assumption) (v := ?_) ?_ ?_
  rotate_left
  · intro w hSw; (try dsimp only at hSw); go_simp; (try with_reducible rfl)
  try simp only [Act.put, List.setIfInBounds_toArray, List.set_cons_zero, List.set_cons_succ]
  refine take_yes 5 32 rfl rfl (by kernel_rfl) (by kernel_rfl) (by kernel_rfl) (fun _ _ _ h => h) (by rfl) (by assumption) (v := ?_) ?_ ?_
  rotate_left
  · intro w hSw; (try dsimp only at hSw); go_simp; (try with_reducible rfl)
  try simp only [Act.put, List.setIfInBounds_toArray, List.set_cons_zero, List.set_cons_succ]
  refine take_yes 6 33 rfl rfl (by kernel_rfl) (by kernel_rfl) (by kernel_rfl) (fun _ _ _ h => h) (by rfl) (by assumption) (v := ?_) ?_ ?_
  rotate_left
  · intro w hSw; (try dsimp only at hSw); go_simp; (try with_reducible rfl)
  try simp only [Act.put, List.setIfInBounds_toArray, List.set_cons_zero, List.set_cons_succ]
  refine wpAnyH_ready (rs := [4]) (by kernel_rfl) (by simp) ?_
  refine AllReadyH.cons (o := _) rfl (fun K hK => ?_) AllReadyH.nil
  go_simp
  refine (N2.out _ _ (by with_reducible rfl)).mono ?_
  rintro e w4 ⟨rfl, rfl⟩
  (try go_wp2_with fail)
  refine hK.out _ _ ?_ (fun hHeld => ?_)
  · (try dsimp only); assumption
  clear hK K
  try simp only [Act.put, List.setIfInBounds_toArray, List.set_cons_zero, List.set_cons_succ]
  refine wpAnyH_ready (rs := [7]) (by kernel_rfl) (by simp) ?_
  refine AllReadyH.cons (o := _) rfl (fun K hK => ?_) AllReadyH.nil
  go_simp
  refine (N4.out _ _ (by with_reducible rfl)).mono ?_
  rintro e w4 ⟨rfl, rfl⟩
  (try go_wp2_with fail)
  refine hK.out _ _ ?_ (fun hHeld => ?_)
  · (try dsimp only); assumption
  clear hK K
  try simp only [Act.put, List.setIfInBounds_toArray, List.set_cons_zero, List.set_cons_succ]
  refine take_yes 8 35 rfl rfl (by kernel_rfl) (by kernel_rfl) (by kernel_rfl) (fun _ _ _ h => h) (by rfl) (by assumption) (v := ?_) ?_ ?_
  rotate_left
  · intro w hSw; (try dsimp only at hSw); go_simp; (try with_reducible rfl)
  try simp only [Act.put, List.setIfInBounds_toArray, List.set_cons_zero, List.set_cons_succ]
  refine take_yes 9 36 rfl rfl (by kernel_rfl) (by kernel_rfl) (by kernel_rfl) (fun _ _ _ h => h) (by rfl) (by assumption) (v := ?_) ?_ ?_
  rotate_left
  · intro w hSw; (try dsimp only at hSw); go_simp; (try with_reducible rfl)
  try simp only [Act.put, List.setIfInBounds_toArray, List.set_cons_zero, List.set_cons_succ]
  refine wpAnyH_ready (rs := [10]) (by kernel_rfl) (by simp) ?_
  refine AllReadyH.cons (o := _) rfl (fun K hK => ?_) AllReadyH.nil
  go_simp
  refine (CL.out _ _ (by rw [HD.out])).mono ?_
  rintro e w5 ⟨rfl, hF5⟩
  (try go_wp2_with fail)
  refine hK.out _ _ ?_ (fun hHeld => ?_)
  · (try dsimp only); exact Fr.mono (hF1.trans hF5) (by simp)
  clear hK K
  try simp only [Act.put, List.setIfInBounds_toArray, List.set_cons_zero, List.set_cons_succ]
  have hN5 := hF5.blk hN1 (by simp)
  have hF6 := hF1.trans hF5
  refine take_yes 11 38 rfl rfl (by kernel_rfl) (by kernel_rfl) (by kernel_rfl) (fun _ _ _ h => h) (by rfl) (by assumption) (v := ?_) ?_ ?_
  rotate_left
  · intro w hSw; (try dsimp only at hSw); go_simp; (try with_reducible rfl)
  try simp only [Act.put, List.setIfInBounds_toArray, List.set_cons_zero, List.set_cons_succ]
  refine wpAnyH_ready (rs := [12]) (by kernel_rfl) (by simp) ?_
  refine AllReadyH.cons (o := _) rfl (fun K hK => ?_) AllReadyH.nil
  rw [if_pos (by rfl)]
  refine wp_store_mid 72 (.tmp 2) (.tmp 38) rfl q 0 #[.int .i64 c, .int .i64 ss, .string (Go.Proofs.Ytcdencpkgfehlaa.B d)] rfl rfl (hN5.there _ (by exact Nat.le_refl _)) (by kernel_rfl) (by simp [Value.oneCell']) ?_
  have hN7 := hN5.setCells #[.int .i64 c, .int .i64 ss, .string (Go.Proofs.Ytcdencpkgfehlaa.B d)] rfl
  have hF7 : Fr [q] W3 (w5.setCells q 0 (#[.int .i64 c, .int .i64 ss, .string (Go.Proofs.Ytcdencpkgfehlaa.B d)] : Array Value).toList) := (hF6.mono (S' := [q]) (by simp)).setCells _ _ _ (Or.inr (by simp))
  obtain ⟨w7, hw7⟩ : ∃ V, w5.setCells q 0 (#[.int .i64 c, .int .i64 ss, .string (Go.Proofs.Ytcdencpkgfehlaa.B d)] : Array Value).toList = V := ⟨_, rfl⟩
  rw [hw7] at hN7 hF7 ⊢
  refine hK.out _ _ ?_ (fun hHeld => ?_)
  · (try dsimp only); exact hF7
  clear hK K
  try simp only [Act.put, List.setIfInBounds_toArray, List.set_cons_zero, List.set_cons_succ]
  refine take_yes 13 3 rfl rfl (by kernel_rfl) (by kernel_rfl) (by kernel_rfl) (fun _ _ _ h => h) (by rfl) (by assumption) (v := ?_) ?_ ?_
  rotate_left
  · intro w hSw; (try dsimp only at hSw); go_simp; (try with_reducible rfl)
  try simp only [Act.put, List.setIfInBounds_toArray, List.set_cons_zero, List.set_cons_succ]
  refine wpAnyH_done (by kernel_rfl) ?_ _
  have HFE := Lib.hid (HF.out.fresh1 hF7 (by have := HQ.out; omega))
  have HN7 := Lib.hid hN7
  go_wp2_with fail
  exact ret_cell2 2 3 72 rfl q 72 _ _ HN7.out rfl Try.underlying72 rfl (by kernel_rfl) rfl ⟨rfl, HFE.out⟩
/-- what Get tells of bytes that hold no packet -/
def NoPkt (w : World) (e : Ending) (w' : World) : Prop := ∃ x : Int, x ≠ 0 ∧ e = .returned (.tuple #[.agg #[.int .i64 0, .int .i64 0, .string ⟨#[]⟩], .int .i64 x]) ∧ Fr [] w w'
set_option maxRecDepth 100000 in
set_option maxHeartbeats 8000000 in
theorem tget_none (b : List UInt8) (hl : b.length ≤ 3000) (h : pkt b = none) :
    Calls Try.prog 40 #[.string (B b)] w (NoPkt w) := by
  have hF := (Fr.refl [] w).alloc (.cells #[.int .i64 0, .int .i64 0, .string ⟨#[]⟩] 72 (0, 0))
  have hN := Blk.new w #[.int .i64 0, .int .i64 0, .string ⟨#[]⟩] 72
  rcases pkt_none h with h1 | ⟨x, r, rfl, hr, h2⟩
  · have h1 : (b.length : Int) < 6 := by omega
    clear h
    go_enter Try.func40, Try.ntmps40
    go_wp2_with fail
    exact ret_cell2 2 3 72 rfl w.heap.size 72 _ _ hN rfl Try.underlying72 rfl (by kernel_rfl) rfl ⟨5, by decide, rfl, hF⟩
  · have hrl : r.length + 1 ≤ 3000 := by simpa using hl
    have NB : Hid (∀ (v : Int) (W : World), v = 4 → Calls Try.prog 67 #[.string (B (x :: r)), .int .i64 v] W fun e w' => e = .returned (.int .i64 (getV (x :: r) 4 2)) ∧ w' = W) := Lib.hid fun v W hv => by subst hv; exact num_any (x :: r) 4 W (by simp; omega) (by simp; omega)
    have hrI : (r.length : Int) + 1 ≤ 3000 := by omega
    have vb := getV_bd (x :: r) 4 2
    obtain ⟨n, hn⟩ : ∃ n, getV (x :: r) 4 2 = n := ⟨_, rfl⟩
    rw [hn] at NB h2 vb
    clear hn h hl hrl
    have hr1 : (5 : Int) ≤ r.length := by omega
    have hr2 : ¬ (r.length : Int) + 1 < 6 := by omega
    rcases h2 with h2 | ⟨rfl, h3⟩
    · have hx : ((x.toNat : Int) != 17) = true := by
        rw [bne_iff_ne]
        intro e
        have : x.toNat = 17 := by omega
        exact h2 (UInt8.toNat_inj.1 this)
      have hx2 : (x != 17) = true := by simpa using h2
      clear h2 vb NB
      go_enter Try.func40, Try.ntmps40
      go_wp2_with fail
      exact ret_cell2 2 3 72 rfl w.heap.size 72 _ _ hN rfl Try.underlying72 rfl (by kernel_rfl) rfl ⟨4, by decide, rfl, hF⟩
    · rcases h3 with h3 | ⟨h3, h4⟩
      · clear vb
        go_enter Try.func40, Try.ntmps40
        go_wp2_with fail
        refine (NB.out _ _ (by with_reducible rfl)).mono ?_
        rintro e w1 ⟨rfl, rfl⟩
        go_wp2_with fail
        exact ret_cell2 2 3 72 rfl w.heap.size 72 _ _ hN rfl Try.underlying72 rfl (by kernel_rfl) rfl ⟨2, by decide, rfl, hF⟩
      · have h4 : (r.length : Int) + 1 - 6 < n := by simpa using h4
        clear vb
        go_enter Try.func40, Try.ntmps40
        go_wp2_with fail
        refine (NB.out _ _ (by with_reducible rfl)).mono ?_
        rintro e w1 ⟨rfl, rfl⟩
        go_wp2_with fail
        refine (NB.out _ _ (by with_reducible rfl)).mono ?_
        rintro e w1 ⟨rfl, rfl⟩
        go_wp2_with fail
        exact ret_cell2 2 3 72 rfl w.heap.size 72 _ _ hN rfl Try.underlying72 rfl (by kernel_rfl) rfl ⟨5, by decide, rfl, hF⟩
theorem tget_some (b : List UInt8) (hl : b.length ≤ 3000) {c ss : Int} {d : List UInt8} (h : pkt b = some (c, ss, d)) :
    Calls Try.prog 40 #[.string (Go.Proofs.Ytcdencpkgfehlaa.B b)] w fun e w' => e = .returned (.tuple #[.agg #[.int .i64 c, .int .i64 ss, .string (Go.Proofs.Ytcdencpkgfehlaa.B d)], .int .i64 0]) ∧ Fr [] w w' := by
  obtain ⟨t, rfl, ⟨h1, h2⟩, ⟨h3, h4⟩, h5⟩ := pkt_some h
  have ht : (t.length : Int) ≤ 3000 := by rw [List.length_append] at hl; omega
  exact tget_laid c ss d t ht h1 h2 h3 h4 h5
end
end Go.Proofs.Ytcdencpkgfehlaa
