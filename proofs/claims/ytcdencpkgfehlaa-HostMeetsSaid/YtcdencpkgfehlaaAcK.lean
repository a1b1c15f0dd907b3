/- ac: offer without services (printed by tools/gen_ack.py). -/
import Derived.Test.YtcdencpkgfehlaaAcE
namespace Go.Proofs.Ytcdencpkgfehlaa
open Go.RowKit Go.Maps
set_option linter.unusedVariables false
section
variable {w : World} {g : Nat} {c : Cn} {S : List Ses} {G : List Idk}
set_option maxRecDepth 100000 in
set_option maxHeartbeats 16000000 in
theorem offer_nil (to : Mc) (sv : List UInt8) {A : Option Addr} {cap : Nat} {l : List Tg} (t : Int) (ht0 : -9223372036854775808 ≤ t) (ht1 : t ≤ 9223372036854775807) (hT : TgAt w A l) (hl : l.length ≤ 20) (hc : l.length ≤ cap) (hm : cap ≤ maxLen)
    (hsv : sv = []) (hcsv : c.sv = .slice none 0 0) (hsec : c.sec.length ≤ 40000) (hsz : (tgsB ((258, c.nm) :: (257, sv) :: (260, md5 (cookL (t / 64) [to.a, to.b, to.c, to.d, to.e, to.f] sv c.sec)) :: uniqT l)).length ≤ 1494) (h : CnIs w g c S G) :
    Calls Try.prog 51 #[.pointer (some ⟨g, 0, none⟩), .agg (mcL to).toArray, .string (B sv), .slice A l.length cap, .int .i64 t] w (OneP w to c.m 34915 (discB 7 0 (tgsB ((258, c.nm) :: (257, sv) :: (260, md5 (cookL (t / 64) [to.a, to.b, to.c, to.d, to.e, to.f] sv c.sec)) :: uniqT l))) []) := by
  obtain ⟨i0, hi, hz0, hz1, hz2⟩ := info_parts infoTag
  obtain ⟨t1, t2, t3, t4, t5, t6⟩ := to
  simp only at hsz ⊢
  have UQ := Lib.hid fun W (hW : Fr [] w W) => uniq_any (hT.fr0 hW) hl hc hm
  have MK := Lib.hid fun W => make_any c.sec t1 t2 t3 t4 t5 t6 sv t W ht0 ht1 hsec (by rw [hsv]; simp)
  obtain ⟨ck, hck⟩ : ∃ x, md5 (cookL (t / 64) [t1, t2, t3, t4, t5, t6] sv c.sec) = x := ⟨_, rfl⟩
  rw [hck] at MK hsz ⊢
  have H := Lib.hid h
  have HTO : Hid (∀ x, x ∈ ((258, c.nm) :: (257, sv) :: (260, ck) :: uniqT l) → TgOk x) := Lib.hid (by
    intro x hx
    rcases List.mem_cons.1 hx with rfl | hx
    · unfold TgOk; simp only; omega
    rcases List.mem_cons.1 hx with rfl | hx
    · unfold TgOk; simp only; omega
    rcases List.mem_cons.1 hx with rfl | hx
    · unfold TgOk; simp only; omega
    unfold uniqT at hx
    split at hx
    · cases hx
    · simp at hx; subst hx; unfold TgOk; simp only; omega)
  have HUL : Hid ((uniqT l).length ≤ 1) := Lib.hid (by unfold uniqT; split <;> simp)
  have HSZ := Lib.hid hsz
  have hie : sv.isEmpty = true := by simp [hsv]
  have hF0 := (Fr.refl [] w).alloc (.cells #[.int .u8 t1, .int .u8 t2, .int .u8 t3, .int .u8 t4, .int .u8 t5, .int .u8 t6] 28 (0, 0))
  have hN0 := Blk.new w #[.int .u8 t1, .int .u8 t2, .int .u8 t3, .int .u8 t4, .int .u8 t5, .int .u8 t6] 28
  obtain ⟨bm, hbm⟩ : ∃ q, w.heap.size = q := ⟨_, rfl⟩
  obtain ⟨V1, hV1⟩ : ∃ W, w.alloc (.cells #[.int .u8 t1, .int .u8 t2, .int .u8 t3, .int .u8 t4, .int .u8 t5, .int .u8 t6] 28 (0, 0)) = W := ⟨_, rfl⟩
  rw [hV1] at hF0 hN0
  rw [hbm] at hN0
  have HX : Hid (∀ W, (Blk W bm #[.int .u8 t1, .int .u8 t2, .int .u8 t3, .int .u8 t4, .int .u8 t5, .int .u8 t6] 28 ∧ Fr [] w W) → (fun W => (W.cell? ⟨bm, 0, none⟩ = some (.int .u8 t1) ∧ W.cell? ⟨bm, 1, none⟩ = some (.int .u8 t2) ∧ W.cell? ⟨bm, 2, none⟩ = some (.int .u8 t3) ∧ W.cell? ⟨bm, 3, none⟩ = some (.int .u8 t4) ∧ W.cell? ⟨bm, 4, none⟩ = some (.int .u8 t5) ∧ W.cell? ⟨bm, 5, none⟩ = some (.int .u8 t6) ∧ W.cell? ⟨g, 7, none⟩ = some (.string (B c.sec))) ∧ Blk W bm #[.int .u8 t1, .int .u8 t2, .int .u8 t3, .int .u8 t4, .int .u8 t5, .int .u8 t6] 28 ∧ Fr [] w W) W) := Lib.hid fun W h => ⟨⟨h.1.c 0 _ rfl, h.1.c 1 _ rfl, h.1.c 2 _ rfl, h.1.c 3 _ rfl, h.1.c 4 _ rfl, h.1.c 5 _ rfl, (h.2.blk H.out.st (by simp)).c 7 _ rfl⟩, h⟩
  have d6 : V1.cell? ⟨g, 6, none⟩ = some (.string (B c.nm)) := (hF0.blk h.st (by simp)).c 6 _ rfl
  have d8 : (V1.alloc (.cells #[.int .i64 258, .string (B c.nm), .int .i64 257, .string (B sv)] 54 (0, 0))).cell? ⟨g, 8, none⟩ = some (.slice none 0 0) := by
    have := ((hF0.alloc (.cells #[.int .i64 258, .string (B c.nm), .int .i64 257, .string (B sv)] 54 (0, 0))).blk h.st (by simp)).c 8 c.sv rfl
    rwa [hcsv] at this
  have hOut0 := World.ownsRow_lit (base := w.heap.size) (e := 54) (size := 2) V1 #[.int .i64 258, .string (B c.nm), .int .i64 257, .string (B sv)] 2 hF0.size (by unfold maxLen; omega) rfl
  have hFa := (Fr.refl [] V1).alloc (.cells #[.int .i64 258, .string (B c.nm), .int .i64 257, .string (B sv)] 54 (0, 0))
  have hbm3 := hFa.blk hN0 (by simp)
  have hFw3 := hF0.trans hFa
  unfold mcL
  simp only
  clear hT hl hc hm hsv hsec hsz h ht0 ht1 hck hN0 hF0 hFa
  go_enter Try.func51, Try.ntmps51
  go_wp2_with fail
  refine wp_loop_rounds 1 ?_
  rw [rounds_succ]
  go_wp2_with fail
  obtain ⟨V3, hV3⟩ : ∃ X, V1.alloc (.cells #[.int .i64 258, .string (B c.nm), .int .i64 257, .string (B sv)] 54 (0, 0)) = X := ⟨_, rfl⟩
  obtain ⟨qo, hqo⟩ : ∃ X, V1.heap.size = X := ⟨_, rfl⟩
  rw [hV3] at hOut0 hbm3 hFw3 ⊢
  rw [hqo] at hOut0 ⊢
  clear hV3 hqo d6 d8 hV1 hbm
  refine wp_region_held_drew (S := (fun W => (W.cell? ⟨bm, 0, none⟩ = some (.int .u8 t1) ∧ W.cell? ⟨bm, 1, none⟩ = some (.int .u8 t2) ∧ W.cell? ⟨bm, 2, none⟩ = some (.int .u8 t3) ∧ W.cell? ⟨bm, 3, none⟩ = some (.int .u8 t4) ∧ W.cell? ⟨bm, 4, none⟩ = some (.int .u8 t5) ∧ W.cell? ⟨bm, 5, none⟩ = some (.int .u8 t6) ∧ W.cell? ⟨g, 7, none⟩ = some (.string (B c.sec))) ∧ Blk W bm #[.int .u8 t1, .int .u8 t2, .int .u8 t3, .int .u8 t4, .int .u8 t5, .int .u8 t6] 28 ∧ Fr [] w W)) (by kernel_rfl) ?_ (fun hHeld => ?_)
  · (try dsimp only); exact HX.out _ ⟨hbm3.drew, hFw3.drew⟩
  have hOut1 := own_fr0 hOut0 (Fr.refl _ V3).drew
  obtain ⟨v0, hv⟩ : ∃ X, V3.drew = X := ⟨_, rfl⟩
  rw [hv] at hHeld hOut1 ⊢
  clear hv hOut0 hbm3 hFw3
  refine take_yes 0 50 rfl rfl (by kernel_rfl) (by kernel_rfl) (by kernel_rfl) (fun _ _ _ h => h) (by rfl) (by assumption) (v := ?_) ?_ ?_
  rotate_left
  · intro w hSw; (try dsimp only at hSw); go_simp; (try with_reducible rfl)
  try simp only [Act.put, List.setIfInBounds_toArray, List.set_cons_zero, List.set_cons_succ]
  refine take_yes 1 51 rfl rfl (by kernel_rfl) (by kernel_rfl) (by kernel_rfl) (fun _ _ _ h => h) (by rfl) (by assumption) (v := ?_) ?_ ?_
  rotate_left
  · intro w hSw; (try dsimp only at hSw); go_simp; (try with_reducible rfl)
  try simp only [Act.put, List.setIfInBounds_toArray, List.set_cons_zero, List.set_cons_succ]
  refine take_yes 2 52 rfl rfl (by kernel_rfl) (by kernel_rfl) (by kernel_rfl) (fun _ _ _ h => h) (by rfl) (by assumption) (v := ?_) ?_ ?_
  rotate_left
  · intro w hSw; (try dsimp only at hSw); go_simp; (try with_reducible rfl)
  try simp only [Act.put, List.setIfInBounds_toArray, List.set_cons_zero, List.set_cons_succ]
  refine take_yes 3 53 rfl rfl (by kernel_rfl) (by kernel_rfl) (by kernel_rfl) (fun _ _ _ h => h) (by rfl) (by assumption) (v := ?_) ?_ ?_
  rotate_left
  · intro w hSw; (try dsimp only at hSw); go_simp; (try with_reducible rfl)
  try simp only [Act.put, List.setIfInBounds_toArray, List.set_cons_zero, List.set_cons_succ]
  refine take_yes 4 54 rfl rfl (by kernel_rfl) (by kernel_rfl) (by kernel_rfl) (fun _ _ _ h => h) (by rfl) (by assumption) (v := ?_) ?_ ?_
  rotate_left
  · intro w hSw; (try dsimp only at hSw); go_simp; (try with_reducible rfl)
  try simp only [Act.put, List.setIfInBounds_toArray, List.set_cons_zero, List.set_cons_succ]
  refine take_yes 5 55 rfl rfl (by kernel_rfl) (by kernel_rfl) (by kernel_rfl) (fun _ _ _ h => h) (by rfl) (by assumption) (v := ?_) ?_ ?_
  rotate_left
  · intro w hSw; (try dsimp only at hSw); go_simp; (try with_reducible rfl)
  try simp only [Act.put, List.setIfInBounds_toArray, List.set_cons_zero, List.set_cons_succ]
  refine take_yes 6 56 rfl rfl (by kernel_rfl) (by kernel_rfl) (by kernel_rfl) (fun _ _ _ h => h) (by rfl) (by assumption) (v := ?_) ?_ ?_
  rotate_left
  · intro w hSw; (try dsimp only at hSw); go_simp; (try with_reducible rfl)
  try simp only [Act.put, List.setIfInBounds_toArray, List.set_cons_zero, List.set_cons_succ]
  refine take_yes 7 57 rfl rfl (by kernel_rfl) (by kernel_rfl) (by kernel_rfl) (fun _ _ _ h => h) (by rfl) (by assumption) (v := ?_) ?_ ?_
  rotate_left
  · intro w hSw; (try dsimp only at hSw); go_simp; (try with_reducible rfl)
  try simp only [Act.put, List.setIfInBounds_toArray, List.set_cons_zero, List.set_cons_succ]
  refine wpAnyH_ready (rs := [8]) (by kernel_rfl) (by simp) ?_
  refine AllReadyH.cons (o := _) rfl (fun K hK => ?_) AllReadyH.nil
  go_simp
  refine (MK.out _).mono ?_
  rintro e v1 ⟨rfl, hF5⟩
  (try go_wp2_with fail)
  have hb1 := hF5.blk hHeld.2.1 (by simp)
  have hf1 := hHeld.2.2.trans hF5
  replace hOut1 := own_fr0 hOut1 hF5
  refine hK.out _ _ ?_ (fun hHeld1 => ?_)
  · (try dsimp only); exact HX.out _ ⟨hb1, hf1⟩
  clear hK K
  try simp only [Act.put, List.setIfInBounds_toArray, List.set_cons_zero, List.set_cons_succ]
  replace hHeld := hHeld1
  clear hHeld1 hb1 hf1 hF5
  refine take_yes 9 59 rfl rfl (by kernel_rfl) (by kernel_rfl) (by kernel_rfl) (fun _ _ _ h => h) (by rfl) (by assumption) (v := ?_) ?_ ?_
  rotate_left
  · intro w hSw; (try dsimp only at hSw); go_simp; (try with_reducible rfl)
  try simp only [Act.put, List.setIfInBounds_toArray, List.set_cons_zero, List.set_cons_succ]
  refine wpAnyH_ready (rs := [10]) (by kernel_rfl) (by simp) ?_
  refine AllReadyH.cons (o := _) rfl (fun K hK => ?_) AllReadyH.nil
  go_simp
  (try go_wp2_with fail)
  have hFa : Fr [] v1 (v1.alloc (.cells #[.int .i64 260, .string (B ck)] 54 (0, 0))) := (Fr.refl _ _).alloc _
  have hOwnX := World.ownsRow_lit (base := w.heap.size) (e := 54) (size := 2) v1 #[.int .i64 260, .string (B ck)] 1 hHeld.2.2.size (by unfold maxLen; omega) rfl
  replace hOut1 := own_fr0 hOut1 hFa
  have hb1 := hFa.blk hHeld.2.1 (by simp)
  have hf1 := hHeld.2.2.trans hFa
  obtain ⟨v2, hv⟩ : ∃ X, v1.alloc (.cells #[.int .i64 260, .string (B ck)] 54 (0, 0)) = X := ⟨_, rfl⟩
  obtain ⟨qx, hqx⟩ : ∃ q, v1.heap.size = q := ⟨_, rfl⟩
  rw [hv] at hOut1 hOwnX hb1 hf1 ⊢
  rw [hqx] at hOwnX ⊢
  clear hv hqx hFa
  refine hK.out _ _ ?_ (fun hHeld1 => ?_)
  · (try dsimp only); exact HX.out _ ⟨hb1, hf1⟩
  clear hK K
  try simp only [Act.put, List.setIfInBounds_toArray, List.set_cons_zero, List.set_cons_succ]
  replace hHeld := hHeld1
  clear hHeld1 hb1 hf1
  refine wpAnyH_ready (rs := [11]) (by kernel_rfl) (by simp) ?_
  refine AllReadyH.cons (o := _) rfl (fun K hK => ?_) AllReadyH.nil
  rw [if_pos (by rfl)]
  refine app_any _ 61 rfl (.tmp 50) (.tmp 60) 90 rfl w.heap.size 54 i0 (.agg #[.int .i64 0, .string ⟨#[]⟩]) 2 24 Try.underlying90 hi hz0 hz1 hz2 rfl (by decide) _ 2 _ rfl hOut1 _ _ _ _ _ rfl (Reads.of_own hOwnX) (by simp [Value.oneCell']) ?_ ?_ ?_ ?_
  · unfold maxLen; omega
  · omega
  · exact hHeld.2.2.size
  intro va v3 hownA hgrA hrowA
  have hFg := Fr.of_grown hgrA
  have hb1 := keep_grown hOut1 hFg hHeld.2.1 (by decide)
  have hf1 := hHeld.2.2.grown hgrA (fun q hq => own_new hOut1 q hq)
  clear hFg hgrA hrowA hOut1 hOwnX
  refine hK.out _ _ ?_ (fun hHeld1 => ?_)
  · (try dsimp only); exact HX.out _ ⟨hb1, hf1⟩
  clear hK K
  try simp only [Act.put, List.setIfInBounds_toArray, List.set_cons_zero, List.set_cons_succ]
  refine take_yes 12 11 rfl rfl (by kernel_rfl) (by kernel_rfl) (by kernel_rfl) (fun _ _ _ h => h) (by rfl) (by assumption) (v := ?_) ?_ ?_
  rotate_left
  · intro w hSw; (try dsimp only at hSw); go_simp; (try with_reducible rfl)
  try simp only [Act.put, List.setIfInBounds_toArray, List.set_cons_zero, List.set_cons_succ]
  refine wpAnyH_done (by kernel_rfl) ?_ _
  clear hHeld hHeld1
  obtain ⟨A3, c3, rfl⟩ := own_slice hownA
  go_wp2_with fail
  refine wp_region_held_drew (S := (fun W => (W.cell? ⟨bm, 0, none⟩ = some (.int .u8 t1) ∧ W.cell? ⟨bm, 1, none⟩ = some (.int .u8 t2) ∧ W.cell? ⟨bm, 2, none⟩ = some (.int .u8 t3) ∧ W.cell? ⟨bm, 3, none⟩ = some (.int .u8 t4) ∧ W.cell? ⟨bm, 4, none⟩ = some (.int .u8 t5) ∧ W.cell? ⟨bm, 5, none⟩ = some (.int .u8 t6) ∧ W.cell? ⟨g, 7, none⟩ = some (.string (B c.sec))) ∧ Blk W bm #[.int .u8 t1, .int .u8 t2, .int .u8 t3, .int .u8 t4, .int .u8 t5, .int .u8 t6] 28 ∧ Fr [] w W)) (by kernel_rfl) ?_ (fun hHeld => ?_)
  · (try dsimp only); exact HX.out _ ⟨hb1.drew, hf1.drew⟩
  have hOut1 := own_fr0 hownA (Fr.refl _ v3).drew
  obtain ⟨v4, hv⟩ : ∃ X, v3.drew = X := ⟨_, rfl⟩
  rw [hv] at hHeld hOut1 ⊢
  clear hv hownA hb1 hf1
  refine take_yes 0 62 rfl rfl (by kernel_rfl) (by kernel_rfl) (by kernel_rfl) (fun _ _ _ h => h) (by rfl) (by assumption) (v := ?_) ?_ ?_
  rotate_left
  · intro w hSw; (try dsimp only at hSw); go_simp; (try with_reducible rfl)
  try simp only [Act.put, List.setIfInBounds_toArray, List.set_cons_zero, List.set_cons_succ]
  refine take_yes 1 63 rfl rfl (by kernel_rfl) (by kernel_rfl) (by kernel_rfl) (fun _ _ _ h => h) (by rfl) (by assumption) (v := ?_) ?_ ?_
  rotate_left
  · intro w hSw; (try dsimp only at hSw); go_simp; (try with_reducible rfl)
  try simp only [Act.put, List.setIfInBounds_toArray, List.set_cons_zero, List.set_cons_succ]
  refine take_yes 2 64 rfl rfl (by kernel_rfl) (by kernel_rfl) (by kernel_rfl) (fun _ _ _ h => h) (by rfl) (by assumption) (v := ?_) ?_ ?_
  rotate_left
  · intro w hSw; (try dsimp only at hSw); go_simp; (try with_reducible rfl)
  try simp only [Act.put, List.setIfInBounds_toArray, List.set_cons_zero, List.set_cons_succ]
  refine take_yes 3 65 rfl rfl (by kernel_rfl) (by kernel_rfl) (by kernel_rfl) (fun _ _ _ h => h) (by rfl) (by assumption) (v := ?_) ?_ ?_
  rotate_left
  · intro w hSw; (try dsimp only at hSw); go_simp; (try with_reducible rfl)
  try simp only [Act.put, List.setIfInBounds_toArray, List.set_cons_zero, List.set_cons_succ]
  refine wpAnyH_ready (rs := [4]) (by kernel_rfl) (by simp) ?_
  refine AllReadyH.cons (o := _) rfl (fun K hK => ?_) AllReadyH.nil
  go_simp
  refine (UQ.out _ hHeld.2.2).mono ?_
  rintro e v5 ⟨Au, cu, rfl, hUo0, hF5⟩
  (try go_wp2_with fail)
  have hUo := own_base hUo0 hHeld.2.2.size
  have hb1 := hF5.blk hHeld.2.1 (by simp)
  have hf1 := hHeld.2.2.trans hF5
  replace hOut1 := own_fr0 hOut1 hF5
  refine hK.out _ _ ?_ (fun hHeld1 => ?_)
  · (try dsimp only); exact HX.out _ ⟨hb1, hf1⟩
  clear hK K
  try simp only [Act.put, List.setIfInBounds_toArray, List.set_cons_zero, List.set_cons_succ]
  replace hHeld := hHeld1
  clear hHeld1 hb1 hf1 hF5 hUo0
  refine wpAnyH_ready (rs := [5]) (by kernel_rfl) (by simp) ?_
  refine AllReadyH.cons (o := _) rfl (fun K hK => ?_) AllReadyH.nil
  rw [if_pos (by rfl)]
  refine app_any _ 67 rfl (.tmp 64) (.tmp 66) 90 rfl w.heap.size 54 i0 (.agg #[.int .i64 0, .string ⟨#[]⟩]) 2 24 Try.underlying90 hi hz0 hz1 hz2 rfl (by decide) _ 3 _ rfl hOut1 _ _ _ _ _ rfl (Reads.of_own hUo) (tgF_one _) ?_ ?_ ?_ ?_
  · have := HUL.out; unfold maxLen; omega
  · have := HUL.out; omega
  · exact hHeld.2.2.size
  intro vb v6 hownB hgrB hrowB
  have hFg := Fr.of_grown hgrB
  have hb1 := keep_grown hOut1 hFg hHeld.2.1 (by decide)
  have hf1 := hHeld.2.2.grown hgrB (fun q hq => own_new hOut1 q hq)
  obtain ⟨A1, c1, rfl⟩ := own_slice hownB
  have hcp := own_caps hownB
  clear hFg hgrB hrowB hOut1 hUo
  refine hK.out _ _ ?_ (fun hHeld1 => ?_)
  · (try dsimp only); exact HX.out _ ⟨hb1, hf1⟩
  clear hK K
  try simp only [Act.put, List.setIfInBounds_toArray, List.set_cons_zero, List.set_cons_succ]
  have hlen : 3 + (uniqT l).length = ((258, c.nm) :: (257, sv) :: (260, ck) :: uniqT l).length := by simp; omega
  have hTx := TgAt.of_own (l := (258, c.nm) :: (257, sv) :: (260, ck) :: uniqT l) (by rw [← hlen]; exact hownB)
  have FRx := Lib.hid (cframe_any (c0 := c) ⟨t1, t2, t3, t4, t5, t6⟩ 7 0 hTx HTO.out (by simp; have := HUL.out; omega) (by rw [← hlen]; exact hcp.1) hcp.2 HSZ.out (by decide) (by decide) (by decide) (by decide) (hf1.blk H.out.st (by simp)))
  rw [← hlen] at FRx
  unfold mcL at FRx
  simp only at FRx
  have HK4 := Lib.hid hf1
  clear hlen hTx hownB hcp hb1 hf1 hHeld
  refine wpAnyH_ready (rs := [6]) (by kernel_rfl) (by simp) ?_
  refine AllReadyH.cons (o := _) rfl (fun K hK => ?_) AllReadyH.nil
  go_simp
  refine FRx.out.mono ?_
  rintro e v7 ⟨q, rfl, hq, hN, hF2⟩
  have hFw := HK4.out.trans hF2
  have hqw := Nat.le_trans HK4.out.size hq
  (try go_wp2_with fail)
  refine hK.out _ _ ?_ (fun hHeld1 => ?_)
  · (try dsimp only); exact HX.out _ ⟨hF2.blk hHeld1.2.1 (by simp), hFw⟩
  clear hK K
  try simp only [Act.put, List.setIfInBounds_toArray, List.set_cons_zero, List.set_cons_succ]
  refine take_yes 7 10 rfl rfl (by kernel_rfl) (by kernel_rfl) (by kernel_rfl) (fun _ _ _ h => h) (by rfl) (by assumption) (v := ?_) ?_ ?_
  rotate_left
  · intro w hSw; (try dsimp only at hSw); go_simp; (try with_reducible rfl)
  try simp only [Act.put, List.setIfInBounds_toArray, List.set_cons_zero, List.set_cons_succ]
  refine wpAnyH_done (by kernel_rfl) ?_ _
  have HZ : Hid (OneP w ⟨t1, t2, t3, t4, t5, t6⟩ c.m 34915 (discB 7 0 (tgsB ((258, c.nm) :: (257, sv) :: (260, ck) :: uniqT l))) [] (.returned (.slice (some ⟨q, 0, none⟩) 1 1)) v7) := Lib.hid ⟨q, rfl, hqw, hN, hFw⟩
  clear hq hN hF2 hFw hqw
  go_wp2_with fail
  go_ret
  exact HZ.out
end
end Go.Proofs.Ytcdencpkgfehlaa
