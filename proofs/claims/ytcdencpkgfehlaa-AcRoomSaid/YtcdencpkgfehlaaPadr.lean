/- tollgatelaw7.padr (printed by tools/gen_padr.py). -/
import Derived.Test.YtcdencpkgfehlaaAlive7
namespace Go.Proofs.Ytcdencpkgfehlaa
open Go.RowKit Go.Maps
set_option linter.unusedVariables false
def ckOf (h : Mc) (e : Int) : List UInt8 := md5 (cookL e [h.a, h.b, h.c, h.d, h.e, h.f] [] [115])
def padT (h : Mc) (u : List UInt8) : List Tg := [(257, []), (260, ckOf h 0), (259, u)]
theorem padT_ok (h : Mc) (u : List UInt8) (hu : u.length ≤ 1000) : ∀ x, x ∈ padT h u → TgOk x ∧ x.2.length ≤ 1494 := by
  intro x hx
  have := md5_length (cookL 0 [h.a, h.b, h.c, h.d, h.e, h.f] [] [115])
  simp [padT] at hx
  rcases hx with rfl | rfl | rfl
  · unfold TgOk; simp
  · unfold TgOk ckOf; simp [this]
  · unfold TgOk; simp only; omega
theorem padT_size (h : Mc) (u : List UInt8) : (tgsB (padT h u)).length = u.length + 28 := by
  have := md5_length (cookL 0 [h.a, h.b, h.c, h.d, h.e, h.f] [] [115])
  simp [padT, tgsB, tgB_len, ckOf, this]
  omega
set_option maxRecDepth 100000 in
set_option maxHeartbeats 8000000 in
theorem padr_ok (w : World) (h m : Mc) (u : List UInt8) (hu : u.length ≤ 1000) : Calls Try.prog 29 #[.agg (mcL h).toArray, .agg (mcL m).toArray, .string (B u)] w fun e w' => e = .returned (.agg (ethC m h 34915 (discB 25 0 (tgsB (padT h u))))) ∧ Fr [] w w' := by
  have hsz := padT_size h u
  have hok := padT_ok h u hu
  have hckl : (ckOf h 0).length = 16 := md5_length _
  unfold padT at hsz hok ⊢
  obtain ⟨CK, hCK⟩ : ∃ x, ckOf h 0 = x := ⟨_, rfl⟩
  rw [hCK] at hsz hok ⊢
  have MK : Hid (∀ s v W, s = B [115] → v = B [] → Calls Try.prog 26 #[.string s, .agg (mcL h).toArray, .string v, .int .i64 5] W fun r w' => r = .returned (.string (B CK)) ∧ Fr [] W w') := Lib.hid fun s v W h1 h2 => by
    rw [h1, h2, ← hCK]
    exact make_any [115] h.a h.b h.c h.d h.e h.f [] 5 W (by decide) (by decide) (by simp) (by simp)
  have AS := Lib.hid fun W q (hT : TgAt W (some ⟨q, 0, none⟩) [(257, []), (260, CK), (259, u)]) => asked_ok (w := W) (cap := 3) h m 25 0 hT (fun x hx => (hok x hx).1) (by simp) (by simp) (by unfold maxLen; omega) (by omega) (by decide) (by decide) (by decide) (by decide)
  obtain ⟨h1, h2, h3, h4, h5, h6⟩ := h
  obtain ⟨m1, m2, m3, m4, m5, m6⟩ := m
  unfold mcL at MK AS ⊢
  simp only [List.length_cons, List.length_nil] at MK AS ⊢
  have hFa := ((Fr.refl [] w).alloc (.cells #[.int .u8 h1, .int .u8 h2, .int .u8 h3, .int .u8 h4, .int .u8 h5, .int .u8 h6] 28 (0, 0)))
  have hNa := Blk.new w #[.int .u8 h1, .int .u8 h2, .int .u8 h3, .int .u8 h4, .int .u8 h5, .int .u8 h6] 28
  obtain ⟨qa, hqa⟩ : ∃ q, w.heap.size = q := ⟨_, rfl⟩
  obtain ⟨W1, hW1⟩ : ∃ W, w.alloc (.cells #[.int .u8 h1, .int .u8 h2, .int .u8 h3, .int .u8 h4, .int .u8 h5, .int .u8 h6] 28 (0, 0)) = W := ⟨_, rfl⟩
  rw [hW1] at hFa hNa
  rw [hqa] at hNa
  have hFb := hFa.alloc (.cells #[.int .u8 m1, .int .u8 m2, .int .u8 m3, .int .u8 m4, .int .u8 m5, .int .u8 m6] 28 (0, 0))
  have hNb := Blk.new W1 #[.int .u8 m1, .int .u8 m2, .int .u8 m3, .int .u8 m4, .int .u8 m5, .int .u8 m6] 28
  have hNa2 := hNa.alloc (.cells #[.int .u8 m1, .int .u8 m2, .int .u8 m3, .int .u8 m4, .int .u8 m5, .int .u8 m6] 28 (0, 0))
  obtain ⟨qb, hqb⟩ : ∃ q, W1.heap.size = q := ⟨_, rfl⟩
  obtain ⟨W2, hW2⟩ : ∃ W, W1.alloc (.cells #[.int .u8 m1, .int .u8 m2, .int .u8 m3, .int .u8 m4, .int .u8 m5, .int .u8 m6] 28 (0, 0)) = W := ⟨_, rfl⟩
  rw [hW2] at hFb hNb hNa2
  rw [hqb] at hNb
  have hFc := hFb.alloc (.cells #[.int .u8 0, .int .u8 0, .int .u8 0, .int .u8 0, .int .u8 0, .int .u8 0, .int .u8 0, .int .u8 0, .int .u8 0, .int .u8 0, .int .u8 0, .int .u8 0, .int .i64 0, .string ⟨#[]⟩] 35 (0, 0))
  have hNc := Blk.new W2 #[.int .u8 0, .int .u8 0, .int .u8 0, .int .u8 0, .int .u8 0, .int .u8 0, .int .u8 0, .int .u8 0, .int .u8 0, .int .u8 0, .int .u8 0, .int .u8 0, .int .i64 0, .string ⟨#[]⟩] 35
  have hNa3 := hNa2.alloc (.cells #[.int .u8 0, .int .u8 0, .int .u8 0, .int .u8 0, .int .u8 0, .int .u8 0, .int .u8 0, .int .u8 0, .int .u8 0, .int .u8 0, .int .u8 0, .int .u8 0, .int .i64 0, .string ⟨#[]⟩] 35 (0, 0))
  have hNb3 := hNb.alloc (.cells #[.int .u8 0, .int .u8 0, .int .u8 0, .int .u8 0, .int .u8 0, .int .u8 0, .int .u8 0, .int .u8 0, .int .u8 0, .int .u8 0, .int .u8 0, .int .u8 0, .int .i64 0, .string ⟨#[]⟩] 35 (0, 0))
  have HWE0 := hFb.size
  have hne : qa ≠ W2.heap.size ∧ qb ≠ W2.heap.size := by have a := hNa2.lt; have b := hNb.lt; omega
  obtain ⟨qe, hqe⟩ : ∃ q, W2.heap.size = q := ⟨_, rfl⟩
  obtain ⟨W3, hW3⟩ : ∃ W, W2.alloc (.cells #[.int .u8 0, .int .u8 0, .int .u8 0, .int .u8 0, .int .u8 0, .int .u8 0, .int .u8 0, .int .u8 0, .int .u8 0, .int .u8 0, .int .u8 0, .int .u8 0, .int .i64 0, .string ⟨#[]⟩] 35 (0, 0)) = W := ⟨_, rfl⟩
  rw [hW3] at hFc hNc hNa3 hNb3
  rw [hqe] at hNc hne HWE0
  have HWE := Lib.hid HWE0
  have HE := Lib.hid hNc
  have HF3 := Lib.hid hFc
  have HX : Hid (∀ W, Fr [qe] W3 W → (fun W => (W.cell? ⟨qa, 0, none⟩ = some (.int .u8 h1) ∧ W.cell? ⟨qa, 1, none⟩ = some (.int .u8 h2) ∧ W.cell? ⟨qa, 2, none⟩ = some (.int .u8 h3) ∧ W.cell? ⟨qa, 3, none⟩ = some (.int .u8 h4) ∧ W.cell? ⟨qa, 4, none⟩ = some (.int .u8 h5) ∧ W.cell? ⟨qa, 5, none⟩ = some (.int .u8 h6) ∧ W.cell? ⟨qb, 0, none⟩ = some (.int .u8 m1) ∧ W.cell? ⟨qb, 1, none⟩ = some (.int .u8 m2) ∧ W.cell? ⟨qb, 2, none⟩ = some (.int .u8 m3) ∧ W.cell? ⟨qb, 3, none⟩ = some (.int .u8 m4) ∧ W.cell? ⟨qb, 4, none⟩ = some (.int .u8 m5) ∧ W.cell? ⟨qb, 5, none⟩ = some (.int .u8 m6)) ∧ Fr [qe] W3 W) W) := Lib.hid fun W hW => by
    have ha := hW.blk hNa3 (by simpa using hne.1)
    have hb := hW.blk hNb3 (by simpa using hne.2)
    exact ⟨⟨ha.c 0 _ rfl, ha.c 1 _ rfl, ha.c 2 _ rfl, ha.c 3 _ rfl, ha.c 4 _ rfl, ha.c 5 _ rfl, hb.c 0 _ rfl, hb.c 1 _ rfl, hb.c 2 _ rfl, hb.c 3 _ rfl, hb.c 4 _ rfl, hb.c 5 _ rfl⟩, hW⟩
  have hG0 := HX.out _ (Fr.refl _ W3).drew
  clear hFa hNa hFb hNb hNa2 hFc hNc hNa3 hNb3 hsz hok hckl hCK hne HWE0
  go_enter Try.func29, Try.ntmps29
  go_wp2_with fail
  clear hqa hqb hqe hW1 hW2 hW3
  refine wp_region_held_drew (S := (fun W => (W.cell? ⟨qa, 0, none⟩ = some (.int .u8 h1) ∧ W.cell? ⟨qa, 1, none⟩ = some (.int .u8 h2) ∧ W.cell? ⟨qa, 2, none⟩ = some (.int .u8 h3) ∧ W.cell? ⟨qa, 3, none⟩ = some (.int .u8 h4) ∧ W.cell? ⟨qa, 4, none⟩ = some (.int .u8 h5) ∧ W.cell? ⟨qa, 5, none⟩ = some (.int .u8 h6) ∧ W.cell? ⟨qb, 0, none⟩ = some (.int .u8 m1) ∧ W.cell? ⟨qb, 1, none⟩ = some (.int .u8 m2) ∧ W.cell? ⟨qb, 2, none⟩ = some (.int .u8 m3) ∧ W.cell? ⟨qb, 3, none⟩ = some (.int .u8 m4) ∧ W.cell? ⟨qb, 4, none⟩ = some (.int .u8 m5) ∧ W.cell? ⟨qb, 5, none⟩ = some (.int .u8 m6)) ∧ Fr [qe] W3 W)) (by kernel_rfl) ?_ (fun hHeld => ?_)
  · (try dsimp only); exact hG0
  have hZ := (Fr.refl [] W3).drew
  obtain ⟨v0, hv⟩ : ∃ X, W3.drew = X := ⟨_, rfl⟩
  rw [hv] at hHeld hZ ⊢
  clear hv hG0
  refine take_yes 0 7 rfl rfl (by kernel_rfl) (by kernel_rfl) (by kernel_rfl) (fun _ _ _ h => h) (by rfl) (by assumption) (v := ?_) ?_ ?_
  rotate_left
  · intro w hSw; (try dsimp only at hSw); go_simp; (try with_reducible rfl)
  try simp only [Act.put, List.setIfInBounds_toArray, List.set_cons_zero, List.set_cons_succ]
  refine take_yes 1 8 rfl rfl (by kernel_rfl) (by kernel_rfl) (by kernel_rfl) (fun _ _ _ h => h) (by rfl) (by assumption) (v := ?_) ?_ ?_
  rotate_left
  · intro w hSw; (try dsimp only at hSw); go_simp; (try with_reducible rfl)
  try simp only [Act.put, List.setIfInBounds_toArray, List.set_cons_zero, List.set_cons_succ]
  refine take_yes 2 9 rfl rfl (by kernel_rfl) (by kernel_rfl) (by kernel_rfl) (fun _ _ _ h => h) (by rfl) (by assumption) (v := ?_) ?_ ?_
  rotate_left
  · intro w hSw; (try dsimp only at hSw); go_simp; (try with_reducible rfl)
  try simp only [Act.put, List.setIfInBounds_toArray, List.set_cons_zero, List.set_cons_succ]
  refine take_yes 3 10 rfl rfl (by kernel_rfl) (by kernel_rfl) (by kernel_rfl) (fun _ _ _ h => h) (by rfl) (by assumption) (v := ?_) ?_ ?_
  rotate_left
  · intro w hSw; (try dsimp only at hSw); go_simp; (try with_reducible rfl)
  try simp only [Act.put, List.setIfInBounds_toArray, List.set_cons_zero, List.set_cons_succ]
  refine take_yes 6 13 rfl rfl (by kernel_rfl) (by kernel_rfl) (by kernel_rfl) (fun _ _ _ h => h) (by rfl) (by assumption) (v := ?_) ?_ ?_
  rotate_left
  · intro w hSw; (try dsimp only at hSw); go_simp; (try with_reducible rfl)
  try simp only [Act.put, List.setIfInBounds_toArray, List.set_cons_zero, List.set_cons_succ]
  refine take_yes 7 14 rfl rfl (by kernel_rfl) (by kernel_rfl) (by kernel_rfl) (fun _ _ _ h => h) (by rfl) (by assumption) (v := ?_) ?_ ?_
  rotate_left
  · intro w hSw; (try dsimp only at hSw); go_simp; (try with_reducible rfl)
  try simp only [Act.put, List.setIfInBounds_toArray, List.set_cons_zero, List.set_cons_succ]
  refine wpAnyH_ready (rs := [4]) (by kernel_rfl) (by simp) ?_
  refine AllReadyH.cons (o := _) rfl (fun K hK => ?_) AllReadyH.nil
  go_simp
  refine (MK.out _ _ _ rfl rfl).mono ?_
  rintro e v1 ⟨rfl, hFx⟩
  (try go_wp2_with fail)
  refine hK.out _ _ ?_ (fun hHeld1 => ?_)
  · (try dsimp only); exact HX.out _ ((hZ.trans hFx).mono (by simp))
  clear hK K
  replace hZ := hZ.trans hFx
  have hHeld := hHeld1
  clear hHeld1
  try simp only [Act.put, List.setIfInBounds_toArray, List.set_cons_zero, List.set_cons_succ]
  clear hFx
  refine take_yes 5 12 rfl rfl (by kernel_rfl) (by kernel_rfl) (by kernel_rfl) (fun _ _ _ h => h) (by rfl) (by assumption) (v := ?_) ?_ ?_
  rotate_left
  · intro w hSw; (try dsimp only at hSw); go_simp; (try with_reducible rfl)
  try simp only [Act.put, List.setIfInBounds_toArray, List.set_cons_zero, List.set_cons_succ]
  refine wpAnyH_ready (rs := [8]) (by kernel_rfl) (by simp) ?_
  refine AllReadyH.cons (o := _) rfl (fun K hK => ?_) AllReadyH.nil
  go_simp
  (try go_wp2_with fail)
  have hFx : Fr [] v1 (v1.alloc (.cells #[.int .i64 257, .string ⟨#[]⟩, .int .i64 260, .string (B CK), .int .i64 259, .string (B u)] 54 (0, 0))) := (Fr.refl _ _).alloc _
  have hTg : TgAt (v1.alloc (.cells #[.int .i64 257, .string ⟨#[]⟩, .int .i64 260, .string (B CK), .int .i64 259, .string (B u)] 54 (0, 0))) (some ⟨v1.heap.size, 0, none⟩) [(257, []), (260, CK), (259, u)] := TgAt.of_own (base := 0) (cap := 3) (World.ownsRow_lit (base := 0) (e := 54) (size := 2) v1 #[.int .i64 257, .string ⟨#[]⟩, .int .i64 260, .string (B CK), .int .i64 259, .string (B u)] 3 (Nat.zero_le _) (by unfold maxLen; omega) rfl)
  obtain ⟨v2, hv⟩ : ∃ X, v1.alloc (.cells #[.int .i64 257, .string ⟨#[]⟩, .int .i64 260, .string (B CK), .int .i64 259, .string (B u)] 54 (0, 0)) = X := ⟨_, rfl⟩
  obtain ⟨qx, hqx⟩ : ∃ X, v1.heap.size = X := ⟨_, rfl⟩
  rw [hv] at hFx hTg ⊢
  rw [hqx] at hTg ⊢
  (try go_wp2_with fail)
  refine hK.out _ _ ?_ (fun hHeld1 => ?_)
  · (try dsimp only); exact HX.out _ ((hZ.trans hFx).mono (by simp))
  clear hK K
  replace hZ := hZ.trans hFx
  have hHeld := hHeld1
  clear hHeld1
  try simp only [Act.put, List.setIfInBounds_toArray, List.set_cons_zero, List.set_cons_succ]
  clear hv hqx hFx
  refine wpAnyH_ready (rs := [9]) (by kernel_rfl) (by simp) ?_
  refine AllReadyH.cons (o := _) rfl (fun K hK => ?_) AllReadyH.nil
  go_simp
  refine (AS.out v2 qx hTg).mono ?_
  rintro e v3 ⟨rfl, hFx⟩
  (try go_wp2_with fail)
  refine hK.out _ _ ?_ (fun hHeld1 => ?_)
  · (try dsimp only); exact HX.out _ ((hZ.trans hFx).mono (by simp))
  clear hK K
  replace hZ := hZ.trans hFx
  have hHeld := hHeld1
  clear hHeld1
  try simp only [Act.put, List.setIfInBounds_toArray, List.set_cons_zero, List.set_cons_succ]
  clear hFx hTg
  have hE3 := hZ.blk HE.out (by simp)
  refine wpAnyH_ready (rs := [10]) (by kernel_rfl) (by simp) ?_
  refine AllReadyH.cons (o := _) rfl (fun K hK => ?_) AllReadyH.nil
  rw [if_pos (by rfl)]
  refine wp_store_mid 35 (.tmp 6) (.tmp 16) rfl qe 0 (ethC ⟨m1, m2, m3, m4, m5, m6⟩ ⟨h1, h2, h3, h4, h5, h6⟩ 34915 (discB 25 0 (tgsB [(257, []), (260, CK), (259, u)]))) rfl rfl (hE3.there _ (by exact Nat.le_refl _)) (by kernel_rfl) (by simp [ethC, Value.oneCell']) ?_
  have hE4 := hE3.setCells (ethC ⟨m1, m2, m3, m4, m5, m6⟩ ⟨h1, h2, h3, h4, h5, h6⟩ 34915 (discB 25 0 (tgsB [(257, []), (260, CK), (259, u)]))) rfl
  have hF4 : Fr [qe] W3 (v3.setCells qe 0 (ethC ⟨m1, m2, m3, m4, m5, m6⟩ ⟨h1, h2, h3, h4, h5, h6⟩ 34915 (discB 25 0 (tgsB [(257, []), (260, CK), (259, u)]))).toList) := (hZ.mono (S' := [qe]) (by simp)).setCells _ _ _ (Or.inr (by simp))
  obtain ⟨v4, hv4⟩ : ∃ V, v3.setCells qe 0 (ethC ⟨m1, m2, m3, m4, m5, m6⟩ ⟨h1, h2, h3, h4, h5, h6⟩ 34915 (discB 25 0 (tgsB [(257, []), (260, CK), (259, u)]))).toList = V := ⟨_, rfl⟩
  rw [hv4] at hE4 hF4 ⊢
  refine hK.out _ _ ?_ (fun hHeld1 => ?_)
  · (try dsimp only); exact HX.out _ hF4
  clear hK K
  try simp only [Act.put, List.setIfInBounds_toArray, List.set_cons_zero, List.set_cons_succ]
  refine wpAnyH_done (by kernel_rfl) ?_ _
  have HE4 := Lib.hid hE4
  have HFE := Lib.hid (HF3.out.fresh1 hF4 HWE.out)
  clear hE4 hF4 hv4 hE3 hHeld hHeld1 hZ HX
  go_wp2_with fail
  exact ret_cell1 6 35 rfl qe 35 _ _ HE4.out rfl Try.underlying35 rfl (by kernel_rfl) rfl ⟨rfl, HFE.out⟩
end Go.Proofs.Ytcdencpkgfehlaa
