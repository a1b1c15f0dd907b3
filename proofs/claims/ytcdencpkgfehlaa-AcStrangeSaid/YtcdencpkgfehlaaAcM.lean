/- ac: grant where the service is not served, or the cookie is bad (printed by tools/gen_acm.py). -/
import Derived.Test.YtcdencpkgfehlaaAcE
namespace Go.Proofs.Ytcdencpkgfehlaa
open Go.RowKit Go.Maps
set_option linter.unusedVariables false
set_option maxRecDepth 100000 in
theorem strcontains_nil (s : ByteArray) (W : World) : Calls Try.prog 71 #[.slice none 0 0, .string s] W fun e w' => e = .returned (.bool false) ∧ Fr [] W w' := by
  have IX : ∀ W, Calls Try.prog 84 #[.slice none 0 0, .string s] W fun e w' => e = .returned (.int .i64 (-1)) ∧ w' = W := fun W => by
    go_enter Try.func84, Try.ntmps84
    go_wp2_with fail
    refine wp_loop_rounds 1 ?_
    rw [rounds_succ]
    go_wp2_with fail
    go_ret
    exact ⟨rfl, rfl⟩
  have IH := Lib.hid IX
  clear IX
  go_enter Try.func71, Try.ntmps71
  go_wp2_with fail
  refine (IH.out _).mono ?_
  rintro e w1 ⟨rfl, rfl⟩
  go_wp2_with fail
  go_ret
  exact ⟨rfl, Fr.refl _ _⟩

section
variable {w : World} {g : Nat} {c : Cn} {S : List Ses} {G : List Idk}
set_option maxRecDepth 100000 in
set_option maxHeartbeats 16000000 in
theorem grant_un (to : Mc) (sv : List UInt8) {A : Option Addr} {cap : Nat} {l : List Tg} (t : Int) (ht0 : -9223372036854775808 ≤ t) (ht1 : t ≤ 9223372036854775807) (hT : TgAt w A l) (hl : l.length ≤ 20) (hc : l.length ≤ cap) (hm : cap ≤ maxLen)
    (hto : McOk to) (hck : findN l 260 ≠ 0) (hgd : ckGood c.sec to sv (findS l 260) t = true) (hsz : (tgsB ((257, sv) :: (513, []) :: uniqT l)).length ≤ 1494) (hnm : (findS l 259).length ≤ 2000) (hcl : (findS l 260).length ≤ 2000) (hsec : c.sec.length ≤ 40000)
    (hsv : sv ≠ []) (hcc : ∀ W, Fr [] w W → Calls Try.prog 71 #[c.sv, .string (B sv)] W fun e w' => e = .returned (.bool false) ∧ Fr [] W w')
    (h : CnIs w g c S G) :
    Calls Try.prog 52 #[.pointer (some ⟨g, 0, none⟩), .agg (mcL to).toArray, .string (B sv), .slice A l.length cap, .int .i64 t] w (OneP w to c.m 34915 (discB 101 0 (tgsB ((257, sv) :: (513, []) :: uniqT l))) []) := by
  obtain ⟨i0, hi, hz0, hz1, hz2⟩ := info_parts infoTag
  obtain ⟨t1, t2, t3, t4, t5, t6⟩ := to
  have hsvl : sv.length ≤ 1490 := by have := hsz; rw [tgsB, List.flatMap_cons, List.length_append, tgB_len] at this; simp only at this; omega
  have F1 := Lib.hid fun W (hW : Fr [] w W) => find_any 260 (hT.fr0 hW) hl hc hm
  have UQ := Lib.hid fun W (hW : Fr [] w W) => uniq_any (hT.fr0 hW) hl hc hm
  have CK := Lib.hid fun W => check_any c.sec t1 t2 t3 t4 t5 t6 sv (findS l 260) t W ht0 ht1 hsec (by omega) (by omega)
  unfold ckGood at hgd
  simp only at hgd
  rw [hgd] at CK
  have hnl := findN_le l 260
  obtain ⟨n0, hn0⟩ : ∃ n, findN l 260 = n := ⟨_, rfl⟩
  obtain ⟨ck, hck'⟩ : ∃ x, findS l 260 = x := ⟨_, rfl⟩
  have HFN := Lib.hid hn0
  rw [hn0, hck'] at F1
  rw [hck'] at CK
  rw [hn0] at hck hnl
  have hnb : (n0 : Int) ≤ 20 := by omega
  have hnz : ((n0 : Int) == 0) = false := by simpa using hck
  have H := Lib.hid h
  have HTO : Hid (∀ x, x ∈ ((257, sv) :: uniqT l) → TgOk x) := Lib.hid (by
    intro x hx
    rcases List.mem_cons.1 hx with rfl | hx
    · unfold TgOk; simp only; omega
    · unfold uniqT at hx
      split at hx
      · cases hx
      · simp at hx; subst hx; unfold TgOk; simp only; omega)
  have HUL : Hid ((uniqT l).length ≤ 1) := Lib.hid (by unfold uniqT; split <;> simp)
  have HSZ0 : Hid ((tgsB ((257, sv) :: uniqT l)).length ≤ 1494) := Lib.hid (by
    have := hsz
    unfold tgsB at this ⊢
    simp only [List.flatMap_cons, List.length_append] at this ⊢
    omega)
  have HSZ2 := Lib.hid hsz
  have HX0 : Hid (∀ {Sx : List Nat} (W : World), Fr Sx w W → w.heap.size ≤ W.heap.size) := Lib.hid fun W hW => hW.size
  have hF0 := (Fr.refl [] w).alloc (.cells #[.int .u8 t1, .int .u8 t2, .int .u8 t3, .int .u8 t4, .int .u8 t5, .int .u8 t6] 28 (0, 0))
  have hN0 := Blk.new w #[.int .u8 t1, .int .u8 t2, .int .u8 t3, .int .u8 t4, .int .u8 t5, .int .u8 t6] 28
  have HCC := Lib.hid hcc
  have HTO2 : Hid (∀ x, x ∈ ((257, sv) :: (513, []) :: uniqT l) → TgOk x) := Lib.hid (by
    intro x hx
    rcases List.mem_cons.1 hx with rfl | hx
    · unfold TgOk; simp only; omega
    rcases List.mem_cons.1 hx with rfl | hx
    · unfold TgOk; simp only; omega
    · exact HTO.out x (List.mem_cons_of_mem _ hx))
  unfold mcL
  simp only
  clear hT hl hc hm hto hck hgd hsz hcl hsec h ht0 ht1 hnl hn0 hck' hcc hnm
  go_enter Try.func52, Try.ntmps52
  go_wp2_with fail
  refine (F1.out _ hF0).mono ?_
  rintro e w1 ⟨rfl, hF1⟩
  have hbm1 := hF1.blk hN0 (by simp)
  have hFw1 := hF0.trans hF1
  obtain ⟨bm, hbm⟩ : ∃ q, w.heap.size = q := ⟨_, rfl⟩
  rw [hbm] at hbm1 ⊢
  have HBM := Lib.hid hbm
  clear hF0 hN0 hF1 F1 hbm
  go_wp2_with fail
  have HX : Hid (∀ W, (Blk W bm #[.int .u8 t1, .int .u8 t2, .int .u8 t3, .int .u8 t4, .int .u8 t5, .int .u8 t6] 28 ∧ Fr [] w W) → (W.cell? ⟨bm, 0, none⟩ = some (.int .u8 t1) ∧ W.cell? ⟨bm, 1, none⟩ = some (.int .u8 t2) ∧ W.cell? ⟨bm, 2, none⟩ = some (.int .u8 t3) ∧ W.cell? ⟨bm, 3, none⟩ = some (.int .u8 t4) ∧ W.cell? ⟨bm, 4, none⟩ = some (.int .u8 t5) ∧ W.cell? ⟨bm, 5, none⟩ = some (.int .u8 t6) ∧ W.cell? ⟨g, 7, none⟩ = some (.string (B c.sec))) ∧ Blk W bm #[.int .u8 t1, .int .u8 t2, .int .u8 t3, .int .u8 t4, .int .u8 t5, .int .u8 t6] 28 ∧ Fr [] w W) := Lib.hid fun W h => ⟨⟨h.1.c 0 _ rfl, h.1.c 1 _ rfl, h.1.c 2 _ rfl, h.1.c 3 _ rfl, h.1.c 4 _ rfl, h.1.c 5 _ rfl, (h.2.blk H.out.st (by simp)).c 7 _ rfl⟩, h⟩
  have hG0 := HX.out _ ⟨hbm1.drew, hFw1.drew⟩
  clear hbm1 hFw1
  go_region_held3 (fun W => (W.cell? ⟨bm, 0, none⟩ = some (.int .u8 t1) ∧ W.cell? ⟨bm, 1, none⟩ = some (.int .u8 t2) ∧ W.cell? ⟨bm, 2, none⟩ = some (.int .u8 t3) ∧ W.cell? ⟨bm, 3, none⟩ = some (.int .u8 t4) ∧ W.cell? ⟨bm, 4, none⟩ = some (.int .u8 t5) ∧ W.cell? ⟨bm, 5, none⟩ = some (.int .u8 t6) ∧ W.cell? ⟨g, 7, none⟩ = some (.string (B c.sec))) ∧ Blk W bm #[.int .u8 t1, .int .u8 t2, .int .u8 t3, .int .u8 t4, .int .u8 t5, .int .u8 t6] 28 ∧ Fr [] w W)
    (first | exact hG0 | assumption | exact HX.out _ ⟨hFK.blk (And.left (And.right (by assumption))) (by simp), Fr.trans (And.right (And.right (by assumption))) hFK⟩)
    (first | (go_at_call 28; refine (CK.out _).mono ?_; rintro e w2 ⟨rfl, hFK⟩))
  all_goals
    have hb2 : Blk w2 bm #[.int .u8 t1, .int .u8 t2, .int .u8 t3, .int .u8 t4, .int .u8 t5, .int .u8 t6] 28 ∧ Fr [] w w2 := And.right (by assumption)
    obtain ⟨hbm2, hFw2⟩ := hb2
    have hOut0 := World.ownsRow_lit (base := w.heap.size) (e := 54) (size := 2) w2 #[.int .i64 257, .string (B sv)] 1 hFw2.size (by unfold maxLen; omega) rfl
    have hFa := (Fr.refl [] w2).alloc (.cells #[.int .i64 257, .string (B sv)] 54 (0, 0))
    have hbm3 := hFa.blk hbm2 (by simp)
    have hFw3 := hFw2.trans hFa
    clear HX hG0 hFK hbm2 hFw2 hFa CK
    go_wp2_with fail
    obtain ⟨qo, hqo⟩ : ∃ q, w2.heap.size = q := ⟨_, rfl⟩
    obtain ⟨V3, hV3⟩ : ∃ X, w2.alloc (.cells #[.int .i64 257, .string (B sv)] 54 (0, 0)) = X := ⟨_, rfl⟩
    rw [hV3] at hOut0 hbm3 hFw3 ⊢
    have HQO : Hid (qo < V3.heap.size) := Lib.hid (by rw [← hV3, ← hqo]; simp)
    rw [hqo] at hOut0 ⊢
    clear hV3 hqo
    refine (UQ.out _ hFw3).mono ?_
    rintro e w3 ⟨Au, cu, rfl, hUo0, hF3⟩
    have hUo3 := own_base hUo0 hFw3.size
    have hOut3 := own_fr0 hOut0 hF3
    have hbm4 := hF3.blk hbm3 (by simp)
    have hFw4 := hFw3.trans hF3
    have HUQ : Hid (∀ Va Vb : World, Va.ownsRow w.heap.size 54 2 (.slice Au (uniqT l).length cu) (uniqT l).length (tgF (uniqT l)) → Fr [qo] Va Vb → Vb.ownsRow w.heap.size 54 2 (.slice Au (uniqT l).length cu) (uniqT l).length (tgF (uniqT l))) := Lib.hid fun Va Vb h1 h2 => by
      have hq0 : qo < V3.heap.size := HQO.out
      rcases h1.2 with ⟨h3, h4⟩ | ⟨b, cp, cur, h3, h4, h5, h6⟩
      · exact ⟨h1.1, Or.inl ⟨h3, h4⟩⟩
      · have hb := own_new hUo0 b (by rw [h3]; rfl)
        exact ⟨h1.1, Or.inr ⟨b, cp, cur, h3, h4, h2.blk (b := b) h5 (by simp; omega), h6⟩⟩
    clear hUo0 hOut0 hbm3 hFw3 hF3 UQ
    have hie : sv.isEmpty = false := by simpa using hsv
    have d8 := (H.out.fr0 hFw4).st.c 8 _ rfl
    clear hsv
    go_wp2_with fail
    refine (HCC.out _ hFw4).mono ?_
    rintro e w4 ⟨rfl, hFc⟩
    have hUo := own_fr0 hUo3 hFc
    have hOut := own_fr0 hOut3 hFc
    have hbm := hFc.blk hbm4 (by simp)
    have hFx := hFw4.trans hFc
    have hCn := (H.out.fr0 hFx).st
    clear hFc HCC d8 hUo3 hOut3 hbm4 hFw4
    go_wp2_with fail
    obtain ⟨V, hV⟩ : ∃ V, w4 = V := ⟨_, rfl⟩
    rw [hV] at hFx hbm hUo hOut hCn ⊢
    clear hV
    have HX : Hid (∀ W, (Blk W bm #[.int .u8 t1, .int .u8 t2, .int .u8 t3, .int .u8 t4, .int .u8 t5, .int .u8 t6] 28 ∧ Blk W g (cnC c) 85 ∧ Fr [] w W) → (fun W => (W.cell? ⟨bm, 0, none⟩ = some (.int .u8 t1) ∧ W.cell? ⟨bm, 1, none⟩ = some (.int .u8 t2) ∧ W.cell? ⟨bm, 2, none⟩ = some (.int .u8 t3) ∧ W.cell? ⟨bm, 3, none⟩ = some (.int .u8 t4) ∧ W.cell? ⟨bm, 4, none⟩ = some (.int .u8 t5) ∧ W.cell? ⟨bm, 5, none⟩ = some (.int .u8 t6)) ∧ Blk W bm #[.int .u8 t1, .int .u8 t2, .int .u8 t3, .int .u8 t4, .int .u8 t5, .int .u8 t6] 28 ∧ Blk W g (cnC c) 85 ∧ Fr [] w W) W) := Lib.hid fun W h => ⟨⟨h.1.c 0 _ rfl, h.1.c 1 _ rfl, h.1.c 2 _ rfl, h.1.c 3 _ rfl, h.1.c 4 _ rfl, h.1.c 5 _ rfl⟩, h⟩
    refine wp_region_held_drew (S := (fun W => (W.cell? ⟨bm, 0, none⟩ = some (.int .u8 t1) ∧ W.cell? ⟨bm, 1, none⟩ = some (.int .u8 t2) ∧ W.cell? ⟨bm, 2, none⟩ = some (.int .u8 t3) ∧ W.cell? ⟨bm, 3, none⟩ = some (.int .u8 t4) ∧ W.cell? ⟨bm, 4, none⟩ = some (.int .u8 t5) ∧ W.cell? ⟨bm, 5, none⟩ = some (.int .u8 t6)) ∧ Blk W bm #[.int .u8 t1, .int .u8 t2, .int .u8 t3, .int .u8 t4, .int .u8 t5, .int .u8 t6] 28 ∧ Blk W g (cnC c) 85 ∧ Fr [] w W)) (by kernel_rfl) ?_ (fun hHeld => ?_)
    · (try dsimp only); exact HX.out _ ⟨hbm.drew, hCn.drew, hFx.drew⟩
    have hUo1 := own_fr0 hUo (Fr.refl _ V).drew
    have hOut1 := own_fr0 hOut (Fr.refl _ V).drew
    obtain ⟨v0, hv⟩ : ∃ X, V.drew = X := ⟨_, rfl⟩
    rw [hv] at hHeld hUo1 hOut1 ⊢
    clear hv hUo hOut hbm hCn hFx
    refine take_yes 0 53 rfl rfl (by kernel_rfl) (by kernel_rfl) (by kernel_rfl) (fun _ _ _ h => h) (by rfl) (by assumption) (v := ?_) ?_ ?_
    rotate_left
    · intro w hSw; (try dsimp only at hSw); go_simp; (try with_reducible rfl)
    try simp only [Act.put, List.setIfInBounds_toArray, List.set_cons_zero, List.set_cons_succ]
    refine take_yes 1 54 rfl rfl (by kernel_rfl) (by kernel_rfl) (by kernel_rfl) (fun _ _ _ h => h) (by rfl) (by assumption) (v := ?_) ?_ ?_
    rotate_left
    · intro w hSw; (try dsimp only at hSw); go_simp; (try with_reducible rfl)
    try simp only [Act.put, List.setIfInBounds_toArray, List.set_cons_zero, List.set_cons_succ]
    refine take_yes 2 55 rfl rfl (by kernel_rfl) (by kernel_rfl) (by kernel_rfl) (fun _ _ _ h => h) (by rfl) (by assumption) (v := ?_) ?_ ?_
    rotate_left
    · intro w hSw; (try dsimp only at hSw); go_simp; (try with_reducible rfl)
    try simp only [Act.put, List.setIfInBounds_toArray, List.set_cons_zero, List.set_cons_succ]
    refine take_yes 3 56 rfl rfl (by kernel_rfl) (by kernel_rfl) (by kernel_rfl) (fun _ _ _ h => h) (by rfl) (by assumption) (v := ?_) ?_ ?_
    rotate_left
    · intro w hSw; (try dsimp only at hSw); go_simp; (try with_reducible rfl)
    try simp only [Act.put, List.setIfInBounds_toArray, List.set_cons_zero, List.set_cons_succ]
    refine take_yes 6 59 rfl rfl (by kernel_rfl) (by kernel_rfl) (by kernel_rfl) (fun _ _ _ h => h) (by rfl) (by assumption) (v := ?_) ?_ ?_
    rotate_left
    · intro w hSw; (try dsimp only at hSw); go_simp; (try with_reducible rfl)
    try simp only [Act.put, List.setIfInBounds_toArray, List.set_cons_zero, List.set_cons_succ]
    refine wpAnyH_ready (rs := [4]) (by kernel_rfl) (by simp) ?_
    refine AllReadyH.cons (o := _) rfl (fun K hK => ?_) AllReadyH.nil
    go_simp
    (try go_wp2_with fail)
    have hFa : Fr [] v0 (v0.alloc (.cells #[.int .i64 513, .string ⟨#[]⟩] 54 (0, 0))) := (Fr.refl _ _).alloc _
    have hOwnX := World.ownsRow_lit (base := w.heap.size) (e := 54) (size := 2) v0 #[.int .i64 513, .string ⟨#[]⟩] 1 (HX0.out _ hHeld.2.2.2) (by unfold maxLen; omega) rfl
    have hUo2 := own_fr0 hUo1 hFa
    have hOut2 := own_fr0 hOut1 hFa
    obtain ⟨v1, hv⟩ : ∃ X, v0.alloc (.cells #[.int .i64 513, .string ⟨#[]⟩] 54 (0, 0)) = X := ⟨_, rfl⟩
    obtain ⟨qx, hqx⟩ : ∃ q, v0.heap.size = q := ⟨_, rfl⟩
    rw [hv] at hFa hUo2 hOut2 hOwnX ⊢
    rw [hqx] at hOwnX ⊢
    clear hv hqx hUo1 hOut1
    refine hK.out _ _ ?_ (fun hHeld1 => ?_)
    · (try dsimp only); exact HX.out _ ⟨hFa.blk hHeld.2.1 (by simp), hFa.blk hHeld.2.2.1 (by simp), hHeld.2.2.2.trans hFa⟩
    clear hK K hFa hHeld
    try simp only [Act.put, List.setIfInBounds_toArray, List.set_cons_zero, List.set_cons_succ]
    refine wpAnyH_ready (rs := [5]) (by kernel_rfl) (by simp) ?_
    refine AllReadyH.cons (o := _) rfl (fun K hK => ?_) AllReadyH.nil
    rw [if_pos (by rfl)]
    refine app_any _ 58 rfl (.tmp 55) (.tmp 57) 90 rfl w.heap.size 54 i0 (.agg #[.int .i64 0, .string ⟨#[]⟩]) 2 24 Try.underlying90 hi hz0 hz1 hz2 rfl (by decide) _ 1 _ rfl hOut2 _ _ _ _ _ rfl (Reads.of_own hOwnX) (by simp [Value.oneCell']) ?_ ?_ ?_ ?_
    · unfold maxLen; omega
    · omega
    · exact HX0.out _ hHeld1.2.2.2
    intro va v2 hownA hgrA hrowA
    have hFg := Fr.of_grown hgrA
    have hK1 := keep_grown hOut2 hFg hHeld1.2.1 (by decide)
    have hK2 := keep_grown hOut2 hFg hHeld1.2.2.1 (by decide)
    have hK4 := hHeld1.2.2.2.grown hgrA (fun q hq => own_new hOut2 q hq)
    have hUo3 : v2.ownsRow w.heap.size 54 2 (.slice Au (uniqT l).length cu) (uniqT l).length (tgF (uniqT l)) := HUQ.out v1 v2 hUo2 hFg
    clear hFg hgrA hrowA hUo2 hOut2 hHeld1 hOwnX
    refine hK.out _ _ ?_ (fun hHeld => ?_)
    · (try dsimp only); exact HX.out _ ⟨hK1, hK2, hK4⟩
    clear hK K
    try simp only [Act.put, List.setIfInBounds_toArray, List.set_cons_zero, List.set_cons_succ]
    refine wpAnyH_ready (rs := [7]) (by kernel_rfl) (by simp) ?_
    refine AllReadyH.cons (o := _) rfl (fun K hK => ?_) AllReadyH.nil
    rw [if_pos (by rfl)]
    refine app_any _ 60 rfl (.tmp 58) (.tmp 59) 90 rfl w.heap.size 54 i0 (.agg #[.int .i64 0, .string ⟨#[]⟩]) 2 24 Try.underlying90 hi hz0 hz1 hz2 rfl (by decide) _ 2 _ rfl hownA _ _ _ _ _ rfl (Reads.of_own hUo3) (tgF_one _) ?_ ?_ ?_ ?_
    · have := HUL.out; unfold maxLen; omega
    · have := HUL.out; omega
    · exact HX0.out _ hK4
    intro vb v3 hownB hgrB hrowB
    have hFg := Fr.of_grown hgrB
    have hK5 := keep_grown hownA hFg hK1 (by decide)
    have hK6 := keep_grown hownA hFg hK2 (by decide)
    have hK7 := hK4.grown hgrB (fun q hq => own_new hownA q hq)
    obtain ⟨A1, c1, rfl⟩ := own_slice hownB
    have hcp := own_caps hownB
    clear hFg hgrB hrowB hownA hUo3 hHeld hK1 hK2 hK4
    refine hK.out _ _ ?_ (fun hHeld => ?_)
    · (try dsimp only); exact HX.out _ ⟨hK5, hK6, hK7⟩
    clear hK K
    try simp only [Act.put, List.setIfInBounds_toArray, List.set_cons_zero, List.set_cons_succ]
    have hlen : 2 + (uniqT l).length = ((257, sv) :: (513, []) :: uniqT l).length := by simp; omega
    have hTx := TgAt.of_own (l := (257, sv) :: (513, []) :: uniqT l) (by rw [← hlen]; exact hownB)
    have FRx := Lib.hid (cframe_any (c0 := c) ⟨t1, t2, t3, t4, t5, t6⟩ 101 0 hTx HTO2.out (by simp; have := HUL.out; omega) (by rw [← hlen]; exact hcp.1) hcp.2 HSZ2.out (by decide) (by decide) (by decide) (by decide) hK6)
    rw [← hlen] at FRx
    unfold mcL at FRx
    simp only at FRx
    have HK7 := Lib.hid hK7
    clear hlen hTx hownB hcp hK5 hK6 hK7
    refine wpAnyH_ready (rs := [8]) (by kernel_rfl) (by simp) ?_
    refine AllReadyH.cons (o := _) rfl (fun K hK => ?_) AllReadyH.nil
    go_simp
    refine FRx.out.mono ?_
    rintro e v4 ⟨q, rfl, hq, hN, hF2⟩
    have hFw := HK7.out.trans hF2
    have hqw := Nat.le_trans HK7.out.size hq
    (try go_wp2_with fail)
    refine hK.out _ _ ?_ (fun hHeld1 => ?_)
    · (try dsimp only); exact HX.out _ ⟨hF2.blk hHeld.2.1 (by simp), hF2.blk hHeld.2.2.1 (by simp), hFw⟩
    clear hK K
    try simp only [Act.put, List.setIfInBounds_toArray, List.set_cons_zero, List.set_cons_succ]
    refine take_yes 9 10 rfl rfl (by kernel_rfl) (by kernel_rfl) (by kernel_rfl) (fun _ _ _ h => h) (by rfl) (by assumption) (v := ?_) ?_ ?_
    rotate_left
    · intro w hSw; (try dsimp only at hSw); go_simp; (try with_reducible rfl)
    try simp only [Act.put, List.setIfInBounds_toArray, List.set_cons_zero, List.set_cons_succ]
    refine wpAnyH_done (by kernel_rfl) ?_ _
    have HZ : Hid (OneP w ⟨t1, t2, t3, t4, t5, t6⟩ c.m 34915 (discB 101 0 (tgsB ((257, sv) :: (513, []) :: uniqT l))) [] (.returned (.slice (some ⟨q, 0, none⟩) 1 1)) v4) := Lib.hid ⟨q, rfl, hqw, hN, hFw⟩
    clear hq hN hF2 hFw hqw
    go_wp2_with fail
    go_ret
    exact HZ.out
end
end Go.Proofs.Ytcdencpkgfehlaa