/- tollgatelaw7.alive answers true (printed by tools/gen_alive7.py). -/
import Derived.Test.YtcdencpkgfehlaaAcG
import Derived.Test.YtcdencpkgfehlaaAcJ
import Derived.Test.YtcdencpkgfehlaaAcK
import Derived.Test.YtcdencpkgfehlaaAcL
import Derived.Test.YtcdencpkgfehlaaAsked
namespace Go.Proofs.Ytcdencpkgfehlaa
open Go.RowKit Go.Maps
set_option linter.unusedVariables false
def mc9 : Mc := ⟨9, 0, 0, 0, 0, 0⟩
def mcH : Mc := ⟨1, 0, 0, 0, 0, 0⟩
set_option maxRecDepth 100000 in
theorem all_any (w : World) : Calls Try.prog 47 #[] w fun e w' => e = .returned (.agg #[.int .u8 255, .int .u8 255, .int .u8 255, .int .u8 255, .int .u8 255, .int .u8 255]) ∧ Fr [] w w' := by
  go_enter Try.func47, Try.ntmps47
  go_wp2_with fail
  exact ret_cell1 0 28 rfl w.heap.size 28 #[.int .u8 255, .int .u8 255, .int .u8 255, .int .u8 255, .int .u8 255, .int .u8 255] _ (Blk.new w _ _) rfl Try.underlying28 rfl (by kernel_rfl) rfl ⟨rfl, (Fr.refl _ _).alloc _⟩
def cn9 (most : Int) (xa xb : Nat) : Cn := ⟨mc9, [97, 99], [115], .slice none 0 0, most, xa, xb, 0, .slice none 0 0⟩
theorem tagok5 : ∀ x, x ∈ ([(257, []), (259, [117])] : List Tg) → TgOk x ∧ x.2.length ≤ 1494 := by
  intro x hx
  simp at hx
  rcases hx with rfl | rfl <;> (unfold TgOk; simp)
theorem tagok6 (CK : List UInt8) (h : CK.length = 16) : ∀ x, x ∈ ([(257, []), (260, CK), (259, [117])] : List Tg) → TgOk x ∧ x.2.length ≤ 1494 := by
  intro x hx
  simp at hx
  rcases hx with rfl | rfl | rfl <;> (unfold TgOk; simp [h])
set_option maxRecDepth 100000 in
set_option maxHeartbeats 16000000 in
theorem alive7 (w : World) : Calls Try.prog 23 #[] w fun e w' => e = .returned (.bool true) ∧ Fr [] w w' := by
  have NW := Lib.hid fun W => cnew_ok (w := W) mc9 2 (by decide) (by decide)
  unfold mcL B at NW
  rw [show mc9 = ⟨9, 0, 0, 0, 0, 0⟩ from rfl] at NW
  simp only at NW
  have hm := (Blk.new w #[.int .u8 9, .int .u8 0, .int .u8 0, .int .u8 0, .int .u8 0, .int .u8 0] 28).alloc (.cells #[.int .u8 1, .int .u8 0, .int .u8 0, .int .u8 0, .int .u8 0, .int .u8 0] 28 (0, 0))
  have hh := Blk.new (w.alloc (.cells #[.int .u8 9, .int .u8 0, .int .u8 0, .int .u8 0, .int .u8 0, .int .u8 0] 28 (0, 0))) #[.int .u8 1, .int .u8 0, .int .u8 0, .int .u8 0, .int .u8 0, .int .u8 0] 28
  rw [show (w.alloc (.cells #[.int .u8 9, .int .u8 0, .int .u8 0, .int .u8 0, .int .u8 0, .int .u8 0] 28 (0, 0))).heap.size = w.heap.size + 1 by simp] at hh
  have hF0 := ((Fr.refl [] w).alloc (.cells #[.int .u8 9, .int .u8 0, .int .u8 0, .int .u8 0, .int .u8 0, .int .u8 0] 28 (0, 0))).alloc (.cells #[.int .u8 1, .int .u8 0, .int .u8 0, .int .u8 0, .int .u8 0, .int .u8 0] 28 (0, 0))
  go_enter Try.func23, Try.ntmps23
  go_wp2_with fail
  refine (NW.out _).mono ?_
  rintro e w1 ⟨g, xa, xb, rfl, hg, hxa, hxb, hC, hF⟩
  have hm1 := hF.blk hm (by simp)
  have hh1 := hF.blk hh (by simp)
  have hF1 := hF0.trans hF
  obtain ⟨qm, hqm⟩ : ∃ q, w.heap.size = q := ⟨_, rfl⟩
  obtain ⟨qh, hqh⟩ : ∃ q, qm + 1 = q := ⟨_, rfl⟩
  have hgs : w.heap.size + 2 ≤ g ∧ w.heap.size + 2 ≤ xa ∧ w.heap.size + 2 ≤ xb := by simp at hg hxa hxb; omega
  rw [hqm] at hm1 hh1 hgs ⊢
  rw [hqh] at hh1 ⊢
  have HGS := Lib.hid hgs
  have HQM := Lib.hid hqm
  have HQH := Lib.hid hqh
  have HC1 : Hid (CnIs w1 g (cn9 2 xa xb) [] []) := Lib.hid hC
  have HF1 := Lib.hid hF1
  have HGL : Hid (g < w1.heap.size ∧ xa < w1.heap.size ∧ xb < w1.heap.size) := Lib.hid ⟨hC.st.lt, hC.hM.lt, hC.tM.lt⟩
  have HM1 := Lib.hid hm1
  have HH1 := Lib.hid hh1
  obtain ⟨CK, hCK⟩ : ∃ x, md5 (cookL (10 / 64) [1, 0, 0, 0, 0, 0] [] [115]) = x := ⟨_, rfl⟩
  have HCK : Hid (CK.length = 16) := Lib.hid (by rw [← hCK]; exact md5_length _)
  have TP : Hid (∀ W, Fr [] w1 W → Calls Try.prog 24 #[.pointer (some ⟨g, 0, none⟩), .agg (ethC mcF mcH 34915 (discB 9 0 (tgsB [(257, []), (259, [117])]))), .int .i64 10] W fun e w' => ∃ v, e = .returned v ∧ OneP W mcH mc9 34915 (discB 7 0 (tgsB ((258, [97, 99]) :: (257, []) :: (260, CK) :: uniqT [(257, []), (259, [117])]))) [] (.returned v) w') := Lib.hid fun W hW => by
    have hC := HC1.out.fr0 hW
    refine take_padi (c := cn9 2 xa xb) (S := []) (G := []) (fun v w' => OneP W mcH mc9 34915 (discB 7 0 (tgsB ((258, [97, 99]) :: (257, []) :: (260, CK) :: uniqT [(257, []), (259, [117])]))) [] (.returned v) w') mcH [(257, []), (259, [117])] 10 (show mcH ≠ mc9 by decide) tagok5 (by simp) (by simp [tgsB, tgB_len]) rfl ?_ hC
    intro W2 A cap h1 h2 h3 h4
    have hk := HCK.out
    have := offer_nil (w := W2) (c := cn9 2 xa xb) mcH (findS [(257, []), (259, [117])] 257) 10 (by decide) (by decide) h1 (by simp) h2 h3 rfl rfl (by unfold cn9; simp) (by unfold cn9 mcH; simp only; rw [show findS [(257, []), (259, [117])] 257 = [] from rfl, hCK]; simp [tgsB, tgB_len, uniqT, findN, findS, hk]) (hC.fr0 h4)
    refine this.mono fun e w' hO => ?_
    obtain ⟨q, he, hq, hN, hF⟩ := hO
    refine ⟨_, he, q, rfl, Nat.le_trans h4.size hq, ?_, h4.trans hF⟩
    have e1 : md5 (cookL (10 / 64) [mcH.a, mcH.b, mcH.c, mcH.d, mcH.e, mcH.f] (findS [(257, []), (259, [117])] 257) (cn9 2 xa xb).sec) = CK := hCK
    rw [e1] at hN
    exact hN
  have MK : Hid (∀ s v W, s = B [115] → v = B [] → Calls Try.prog 26 #[.string s, .agg #[.int .u8 1, .int .u8 0, .int .u8 0, .int .u8 0, .int .u8 0, .int .u8 0], .string v, .int .i64 10] W fun r w' => r = .returned (.string (B CK)) ∧ Fr [] W w') := Lib.hid fun s v W h1 h2 => by
    rw [h1, h2, ← hCK]
    exact make_any [115] 1 0 0 0 0 0 [] 10 W (by decide) (by decide) (by simp) (by simp)
  have TG : Hid (∀ W, Fr [] w1 W → Calls Try.prog 24 #[.pointer (some ⟨g, 0, none⟩), .agg (ethC mc9 mcH 34915 (discB 25 0 (tgsB [(257, []), (260, CK), (259, [117])]))), .int .i64 70] W fun e w' => ∃ v, e = .returned v ∧ ∃ W2, Fr [] W W2 ∧ ∃ p, W2.heap.size ≤ p ∧ CnIs w' g { cn9 2 xa xb with last := 1 } [⟨mcH, 1, [117], false, p⟩] [] ∧ OneP W2 mcH mc9 34915 (discB 101 1 (tgsB ((257, []) :: uniqT [(257, []), (260, CK), (259, [117])]))) [g, xa, xb] (.returned v) w') := Lib.hid fun W hW => by
    have hC := HC1.out.fr0 hW
    have hk := HCK.out
    refine take_padr (c := cn9 2 xa xb) (S := []) (G := []) (fun v w' => ∃ W2, Fr [] W W2 ∧ ∃ p, W2.heap.size ≤ p ∧ CnIs w' g { cn9 2 xa xb with last := 1 } [⟨mcH, 1, [117], false, p⟩] [] ∧ OneP W2 mcH mc9 34915 (discB 101 1 (tgsB ((257, []) :: uniqT [(257, []), (260, CK), (259, [117])]))) [g, xa, xb] (.returned v) w') mcH [(257, []), (260, CK), (259, [117])] 70 (show mcH ≠ mc9 by decide) (tagok6 CK hk) (by simp) (by simp [tgsB, tgB_len, hk]) rfl ?_ hC
    intro W2 A cap h1 h2 h3 h4
    have := grant_ok (w := W2) (c := cn9 2 xa xb) mcH (findS [(257, []), (260, CK), (259, [117])] 257) 70 (by decide) (by decide) h1 (by simp) h2 h3 (by unfold McOk mcH b8; decide) (by simp [findN]) (by
      have e1 : md5 (cookL (70 / 64 - 1) [mcH.a, mcH.b, mcH.c, mcH.d, mcH.e, mcH.f] [] [115]) = CK := hCK
      unfold ckGood
      rw [show findS [(257, []), (260, CK), (259, [117])] 257 = [] from rfl, show findS [(257, []), (260, CK), (259, [117])] 260 = CK from rfl, show (cn9 2 xa xb).sec = [115] from rfl, e1]
      simp [sameB]) (by rw [show findS [(257, []), (260, CK), (259, [117])] 257 = [] from rfl]; simp [tgsB, tgB_len, uniqT, findN, findS]) (by simp [findS]) (by simp [findS, hk]) (by unfold cn9; simp) (Or.inl rfl) (hC.fr0 h4) (by unfold cn9; simp) (by simp) (by unfold cn9; simp)
    refine this.mono fun e w' hG => ?_
    rcases hG with ⟨s, hs, _⟩ | ⟨_, hf, _⟩ | ⟨_, _, _, p, hp, hCn, hO⟩
    · cases hs
    · unfold cn9 ofCard at hf; simp at hf
    · obtain ⟨q, he, hq, hN, hF⟩ := hO
      exact ⟨_, he, W2, h4, p, hp, hCn, q, rfl, hq, hN, hF⟩
  have HX : Hid (∀ W, Fr [] w1 W → (fun W => (W.cell? ⟨qh, 0, none⟩ = some (.int .u8 1) ∧ W.cell? ⟨qh, 1, none⟩ = some (.int .u8 0) ∧ W.cell? ⟨qh, 2, none⟩ = some (.int .u8 0) ∧ W.cell? ⟨qh, 3, none⟩ = some (.int .u8 0) ∧ W.cell? ⟨qh, 4, none⟩ = some (.int .u8 0) ∧ W.cell? ⟨qh, 5, none⟩ = some (.int .u8 0)) ∧ Fr [] w1 W) W) := Lib.hid fun W hW => by
    have hb := hW.blk HH1.out (by simp)
    exact ⟨⟨hb.c 0 _ rfl, hb.c 1 _ rfl, hb.c 2 _ rfl, hb.c 3 _ rfl, hb.c 4 _ rfl, hb.c 5 _ rfl⟩, hW⟩
  have hG0 := HX.out _ (Fr.refl [] w1).drew
  clear hm hh hF0 hF hg hxa hxb hC hm1 hh1 hF1 hgs hqm hqh NW hCK
  go_wp2_with fail
  refine wp_region_held_drew (S := (fun W => (W.cell? ⟨qh, 0, none⟩ = some (.int .u8 1) ∧ W.cell? ⟨qh, 1, none⟩ = some (.int .u8 0) ∧ W.cell? ⟨qh, 2, none⟩ = some (.int .u8 0) ∧ W.cell? ⟨qh, 3, none⟩ = some (.int .u8 0) ∧ W.cell? ⟨qh, 4, none⟩ = some (.int .u8 0) ∧ W.cell? ⟨qh, 5, none⟩ = some (.int .u8 0)) ∧ Fr [] w1 W)) (by kernel_rfl) ?_ (fun hHeld => ?_)
  · (try dsimp only); exact hG0
  obtain ⟨v0, hv⟩ : ∃ X, w1.drew = X := ⟨_, rfl⟩
  rw [hv] at hHeld ⊢
  clear hv hG0
  refine take_yes 0 21 rfl rfl (by kernel_rfl) (by kernel_rfl) (by kernel_rfl) (fun _ _ _ h => h) (by rfl) (by assumption) (v := ?_) ?_ ?_
  rotate_left
  · intro w hSw; (try dsimp only at hSw); go_simp; (try with_reducible rfl)
  try simp only [Act.put, List.setIfInBounds_toArray, List.set_cons_zero, List.set_cons_succ]
  refine take_yes 1 22 rfl rfl (by kernel_rfl) (by kernel_rfl) (by kernel_rfl) (fun _ _ _ h => h) (by rfl) (by assumption) (v := ?_) ?_ ?_
  rotate_left
  · intro w hSw; (try dsimp only at hSw); go_simp; (try with_reducible rfl)
  try simp only [Act.put, List.setIfInBounds_toArray, List.set_cons_zero, List.set_cons_succ]
  refine take_yes 3 24 rfl rfl (by kernel_rfl) (by kernel_rfl) (by kernel_rfl) (fun _ _ _ h => h) (by rfl) (by assumption) (v := ?_) ?_ ?_
  rotate_left
  · intro w hSw; (try dsimp only at hSw); go_simp; (try with_reducible rfl)
  try simp only [Act.put, List.setIfInBounds_toArray, List.set_cons_zero, List.set_cons_succ]
  refine take_yes 4 25 rfl rfl (by kernel_rfl) (by kernel_rfl) (by kernel_rfl) (fun _ _ _ h => h) (by rfl) (by assumption) (v := ?_) ?_ ?_
  rotate_left
  · intro w hSw; (try dsimp only at hSw); go_simp; (try with_reducible rfl)
  try simp only [Act.put, List.setIfInBounds_toArray, List.set_cons_zero, List.set_cons_succ]
  refine wpAnyH_ready (rs := [2, 5]) (by kernel_rfl) (by simp) ?_
  refine AllReadyH.cons (o := _) rfl (fun K hK => ?_) ?_
  · go_simp
    refine (all_any _).mono ?_
    rintro e v1 ⟨rfl, hFx⟩
    (try go_wp2_with fail)
    refine hK.out _ _ ?_ (fun hHeld1 => ?_)
    · (try dsimp only); exact HX.out _ (hHeld.2.trans hFx)
    clear hK K
    have hHeld := hHeld1
    clear hHeld1
    try simp only [Act.put, List.setIfInBounds_toArray, List.set_cons_zero, List.set_cons_succ]
    clear hFx
    refine wpAnyH_ready (rs := [5]) (by kernel_rfl) (by simp) ?_
    refine AllReadyH.cons (o := _) rfl (fun K hK => ?_) AllReadyH.nil
    go_simp
    (try go_wp2_with fail)
    have hFx : Fr [] v1 (v1.alloc (.cells #[.int .i64 257, .string ⟨#[]⟩, .int .i64 259, .string ⟨#[117]⟩] 54 (0, 0))) := (Fr.refl _ _).alloc _
    have hTg : TgAt (v1.alloc (.cells #[.int .i64 257, .string ⟨#[]⟩, .int .i64 259, .string ⟨#[117]⟩] 54 (0, 0))) (some ⟨v1.heap.size, 0, none⟩) [(257, []), (259, [117])] := TgAt.of_own (base := 0) (cap := 2) (World.ownsRow_lit (base := 0) (e := 54) (size := 2) v1 #[.int .i64 257, .string ⟨#[]⟩, .int .i64 259, .string ⟨#[117]⟩] 2 (Nat.zero_le _) (by unfold maxLen; omega) rfl)
    obtain ⟨v2, hv⟩ : ∃ X, v1.alloc (.cells #[.int .i64 257, .string ⟨#[]⟩, .int .i64 259, .string ⟨#[117]⟩] 54 (0, 0)) = X := ⟨_, rfl⟩
    obtain ⟨qx, hqx⟩ : ∃ X, v1.heap.size = X := ⟨_, rfl⟩
    rw [hv] at hFx hTg ⊢
    rw [hqx] at hTg ⊢
    (try go_wp2_with fail)
    refine hK.out _ _ ?_ (fun hHeld1 => ?_)
    · (try dsimp only); exact HX.out _ (hHeld.2.trans hFx)
    clear hK K
    have hHeld := hHeld1
    clear hHeld1
    try simp only [Act.put, List.setIfInBounds_toArray, List.set_cons_zero, List.set_cons_succ]
    clear hv hqx
    clear hFx
    refine wpAnyH_ready (rs := [6]) (by kernel_rfl) (by simp) ?_
    refine AllReadyH.cons (o := _) rfl (fun K hK => ?_) AllReadyH.nil
    go_simp
    refine (asked_ok (w := v2) mcH mcF 9 0 hTg (fun x hx => (tagok5 x hx).1) (by simp) (by simp) (by unfold maxLen; omega) (by simp [tgsB, tgB_len]) (by decide) (by decide) (by decide) (by decide)).mono ?_
    rintro e v3 ⟨rfl, hFx⟩
    (try go_wp2_with fail)
    refine hK.out _ _ ?_ (fun hHeld1 => ?_)
    · (try dsimp only); exact HX.out _ (hHeld.2.trans hFx)
    clear hK K
    have hHeld := hHeld1
    clear hHeld1
    try simp only [Act.put, List.setIfInBounds_toArray, List.set_cons_zero, List.set_cons_succ]
    clear hTg
    refine wpAnyH_ready (rs := [7]) (by kernel_rfl) (by simp) ?_
    refine AllReadyH.cons (o := _) rfl (fun K hK => ?_) AllReadyH.nil
    go_simp
    have h3s := hHeld.2.size
    refine (TP.out v3 (hHeld.2)).mono ?_
    rintro e v4 ⟨v, rfl, q1, hv1, hq1, hN1, hFx⟩
    injection hv1 with hv1
    subst hv1
    (try go_wp2_with fail)
    refine hK.out _ _ ?_ (fun hHeld1 => ?_)
    · (try dsimp only); exact HX.out _ (hHeld.2.trans hFx)
    clear hK K
    have hHeld := hHeld1
    clear hHeld1
    try simp only [Act.put, List.setIfInBounds_toArray, List.set_cons_zero, List.set_cons_succ]
    refine take_yes 8 5 rfl rfl (by kernel_rfl) (by kernel_rfl) (by kernel_rfl) (fun _ _ _ h => h) (by rfl) (by assumption) (v := ?_) ?_ ?_
    rotate_left
    · intro w hSw; (try dsimp only at hSw); go_simp; (try with_reducible rfl)
    try simp only [Act.put, List.setIfInBounds_toArray, List.set_cons_zero, List.set_cons_succ]
    refine wpAnyH_done (by kernel_rfl) ?_ _
    have HW4 := Lib.hid hHeld.2
    have HN1 := Lib.hid hN1
    have HQ1 : Hid (w1.heap.size ≤ q1) := Lib.hid (Nat.le_trans h3s hq1)
    have HQL := Lib.hid hN1.lt
    clear hHeld hFx hN1 hq1 h3s TP HX
    have HX : Hid (∀ W, Fr [g, xa, xb] v4 W → (fun W => W.cell? ⟨qh, 0, none⟩ = some (.int .u8 1) ∧ W.cell? ⟨qh, 1, none⟩ = some (.int .u8 0) ∧ W.cell? ⟨qh, 2, none⟩ = some (.int .u8 0) ∧ W.cell? ⟨qh, 3, none⟩ = some (.int .u8 0) ∧ W.cell? ⟨qh, 4, none⟩ = some (.int .u8 0) ∧ W.cell? ⟨qh, 5, none⟩ = some (.int .u8 0) ∧ W.cell? ⟨qm, 0, none⟩ = some (.int .u8 9) ∧ W.cell? ⟨qm, 1, none⟩ = some (.int .u8 0) ∧ W.cell? ⟨qm, 2, none⟩ = some (.int .u8 0) ∧ W.cell? ⟨qm, 3, none⟩ = some (.int .u8 0) ∧ W.cell? ⟨qm, 4, none⟩ = some (.int .u8 0) ∧ W.cell? ⟨qm, 5, none⟩ = some (.int .u8 0)) W) := Lib.hid fun W hW => by
      have ha : qh ∉ [g, xa, xb] ∧ qm ∉ [g, xa, xb] := by
        have h1 := HGS.out
        have h2 := HQH.out
        simp; omega
      have hb := hW.blk (HW4.out.blk HH1.out (by simp)) ha.1
      have hb2 := hW.blk (HW4.out.blk HM1.out (by simp)) ha.2
      exact ⟨hb.c 0 _ rfl, hb.c 1 _ rfl, hb.c 2 _ rfl, hb.c 3 _ rfl, hb.c 4 _ rfl, hb.c 5 _ rfl, hb2.c 0 _ rfl, hb2.c 1 _ rfl, hb2.c 2 _ rfl, hb2.c 3 _ rfl, hb2.c 4 _ rfl, hb2.c 5 _ rfl⟩
    have hG0 := HX.out _ (Fr.refl _ v4).drew
    go_wp2_with fail
    refine wp_region_held_drew (S := (fun W => W.cell? ⟨qh, 0, none⟩ = some (.int .u8 1) ∧ W.cell? ⟨qh, 1, none⟩ = some (.int .u8 0) ∧ W.cell? ⟨qh, 2, none⟩ = some (.int .u8 0) ∧ W.cell? ⟨qh, 3, none⟩ = some (.int .u8 0) ∧ W.cell? ⟨qh, 4, none⟩ = some (.int .u8 0) ∧ W.cell? ⟨qh, 5, none⟩ = some (.int .u8 0) ∧ W.cell? ⟨qm, 0, none⟩ = some (.int .u8 9) ∧ W.cell? ⟨qm, 1, none⟩ = some (.int .u8 0) ∧ W.cell? ⟨qm, 2, none⟩ = some (.int .u8 0) ∧ W.cell? ⟨qm, 3, none⟩ = some (.int .u8 0) ∧ W.cell? ⟨qm, 4, none⟩ = some (.int .u8 0) ∧ W.cell? ⟨qm, 5, none⟩ = some (.int .u8 0))) (by kernel_rfl) ?_ (fun hHeld => ?_)
    · (try dsimp only); exact hG0
    have hZ := (Fr.refl [] v4).drew
    obtain ⟨v5, hv⟩ : ∃ X, v4.drew = X := ⟨_, rfl⟩
    rw [hv] at hHeld hZ ⊢
    clear hv hG0
    refine take_yes 0 29 rfl rfl (by kernel_rfl) (by kernel_rfl) (by kernel_rfl) (fun _ _ _ h => h) (by rfl) (by assumption) (v := ?_) ?_ ?_
    rotate_left
    · intro w hSw; (try dsimp only at hSw); go_simp; (try with_reducible rfl)
    try simp only [Act.put, List.setIfInBounds_toArray, List.set_cons_zero, List.set_cons_succ]
    refine take_yes 1 30 rfl rfl (by kernel_rfl) (by kernel_rfl) (by kernel_rfl) (fun _ _ _ h => h) (by rfl) (by assumption) (v := ?_) ?_ ?_
    rotate_left
    · intro w hSw; (try dsimp only at hSw); go_simp; (try with_reducible rfl)
    try simp only [Act.put, List.setIfInBounds_toArray, List.set_cons_zero, List.set_cons_succ]
    refine take_yes 2 31 rfl rfl (by kernel_rfl) (by kernel_rfl) (by kernel_rfl) (fun _ _ _ h => h) (by rfl) (by assumption) (v := ?_) ?_ ?_
    rotate_left
    · intro w hSw; (try dsimp only at hSw); go_simp; (try with_reducible rfl)
    try simp only [Act.put, List.setIfInBounds_toArray, List.set_cons_zero, List.set_cons_succ]
    refine take_yes 3 32 rfl rfl (by kernel_rfl) (by kernel_rfl) (by kernel_rfl) (fun _ _ _ h => h) (by rfl) (by assumption) (v := ?_) ?_ ?_
    rotate_left
    · intro w hSw; (try dsimp only at hSw); go_simp; (try with_reducible rfl)
    try simp only [Act.put, List.setIfInBounds_toArray, List.set_cons_zero, List.set_cons_succ]
    refine take_yes 4 33 rfl rfl (by kernel_rfl) (by kernel_rfl) (by kernel_rfl) (fun _ _ _ h => h) (by rfl) (by assumption) (v := ?_) ?_ ?_
    rotate_left
    · intro w hSw; (try dsimp only at hSw); go_simp; (try with_reducible rfl)
    try simp only [Act.put, List.setIfInBounds_toArray, List.set_cons_zero, List.set_cons_succ]
    refine take_yes 7 36 rfl rfl (by kernel_rfl) (by kernel_rfl) (by kernel_rfl) (fun _ _ _ h => h) (by rfl) (by assumption) (v := ?_) ?_ ?_
    rotate_left
    · intro w hSw; (try dsimp only at hSw); go_simp; (try with_reducible rfl)
    try simp only [Act.put, List.setIfInBounds_toArray, List.set_cons_zero, List.set_cons_succ]
    refine wpAnyH_ready (rs := [5]) (by kernel_rfl) (by simp) ?_
    refine AllReadyH.cons (o := _) rfl (fun K hK => ?_) AllReadyH.nil
    go_simp
    refine (MK.out _ _ _ rfl rfl).mono ?_
    rintro e v6 ⟨rfl, hFx⟩
    (try go_wp2_with fail)
    refine hK.out _ _ ?_ (fun hHeld1 => ?_)
    · (try dsimp only); exact HX.out _ ((hZ.trans hFx).mono (by simp))
    clear hK K
    replace hZ := hZ.trans hFx
    have hHeld := hHeld1
    clear hHeld1
    try simp only [Act.put, List.setIfInBounds_toArray, List.set_cons_zero, List.set_cons_succ]
    clear hFx
    refine take_yes 6 35 rfl rfl (by kernel_rfl) (by kernel_rfl) (by kernel_rfl) (fun _ _ _ h => h) (by rfl) (by assumption) (v := ?_) ?_ ?_
    rotate_left
    · intro w hSw; (try dsimp only at hSw); go_simp; (try with_reducible rfl)
    try simp only [Act.put, List.setIfInBounds_toArray, List.set_cons_zero, List.set_cons_succ]
    refine wpAnyH_ready (rs := [8]) (by kernel_rfl) (by simp) ?_
    refine AllReadyH.cons (o := _) rfl (fun K hK => ?_) AllReadyH.nil
    go_simp
    (try go_wp2_with fail)
    have hFx : Fr [] v6 (v6.alloc (.cells #[.int .i64 257, .string ⟨#[]⟩, .int .i64 260, .string (B CK), .int .i64 259, .string ⟨#[117]⟩] 54 (0, 0))) := (Fr.refl _ _).alloc _
    have hTg : TgAt (v6.alloc (.cells #[.int .i64 257, .string ⟨#[]⟩, .int .i64 260, .string (B CK), .int .i64 259, .string ⟨#[117]⟩] 54 (0, 0))) (some ⟨v6.heap.size, 0, none⟩) [(257, []), (260, CK), (259, [117])] := TgAt.of_own (base := 0) (cap := 3) (World.ownsRow_lit (base := 0) (e := 54) (size := 2) v6 #[.int .i64 257, .string ⟨#[]⟩, .int .i64 260, .string (B CK), .int .i64 259, .string ⟨#[117]⟩] 3 (Nat.zero_le _) (by unfold maxLen; omega) rfl)
    obtain ⟨v7, hv⟩ : ∃ X, v6.alloc (.cells #[.int .i64 257, .string ⟨#[]⟩, .int .i64 260, .string (B CK), .int .i64 259, .string ⟨#[117]⟩] 54 (0, 0)) = X := ⟨_, rfl⟩
    obtain ⟨qx, hqx⟩ : ∃ X, v6.heap.size = X := ⟨_, rfl⟩
    rw [hv] at hFx hTg ⊢
    rw [hqx] at hTg ⊢
    (try go_wp2_with fail)
    refine hK.out _ _ ?_ (fun hHeld1 => ?_)
    · (try dsimp only); exact HX.out _ ((hZ.trans hFx).mono (by simp))
    clear hK K
    replace hZ := hZ.trans hFx
    have hHeld := hHeld1
    clear hHeld1
    try simp only [Act.put, List.setIfInBounds_toArray, List.set_cons_zero, List.set_cons_succ]
    clear hv hqx
    clear hFx
    refine wpAnyH_ready (rs := [9]) (by kernel_rfl) (by simp) ?_
    refine AllReadyH.cons (o := _) rfl (fun K hK => ?_) AllReadyH.nil
    go_simp
    refine (asked_ok (w := v7) mcH mc9 25 0 hTg (fun x hx => (tagok6 CK HCK.out x hx).1) (by simp) (by simp) (by unfold maxLen; omega) (by simp [tgsB, tgB_len, HCK.out]) (by decide) (by decide) (by decide) (by decide)).mono ?_
    rintro e v8 ⟨rfl, hFx⟩
    (try go_wp2_with fail)
    refine hK.out _ _ ?_ (fun hHeld1 => ?_)
    · (try dsimp only); exact HX.out _ ((hZ.trans hFx).mono (by simp))
    clear hK K
    replace hZ := hZ.trans hFx
    have hHeld := hHeld1
    clear hHeld1
    try simp only [Act.put, List.setIfInBounds_toArray, List.set_cons_zero, List.set_cons_succ]
    clear hTg hFx
    refine wpAnyH_ready (rs := [10]) (by kernel_rfl) (by simp) ?_
    refine AllReadyH.cons (o := _) rfl (fun K hK => ?_) AllReadyH.nil
    go_simp
    refine (TG.out v8 (HW4.out.trans hZ)).mono ?_
    rintro e v9 ⟨v, rfl, W9, hF9, p, hp, hC9, q2, hv2, hq2, hN2, hFx9⟩
    injection hv2 with hv2
    subst hv2
    have hFt : Fr [g, xa, xb] v4 v9 := ((hZ.trans hF9).mono (by simp)).trans hFx9
    (try go_wp2_with fail)
    refine hK.out _ _ ?_ (fun hHeld1 => ?_)
    · (try dsimp only); exact HX.out _ hFt
    clear hK K
    try simp only [Act.put, List.setIfInBounds_toArray, List.set_cons_zero, List.set_cons_succ]
    refine take_yes 11 6 rfl rfl (by kernel_rfl) (by kernel_rfl) (by kernel_rfl) (fun _ _ _ h => h) (by rfl) (by assumption) (v := ?_) ?_ ?_
    rotate_left
    · intro w hSw; (try dsimp only at hSw); go_simp; (try with_reducible rfl)
    try simp only [Act.put, List.setIfInBounds_toArray, List.set_cons_zero, List.set_cons_succ]
    refine wpAnyH_done (by kernel_rfl) ?_ _
    have LV := Lib.hid (live_ok hC9 (by simp))
    have HFT := Lib.hid hFt
    clear hHeld hHeld1 hZ hF9 hp hC9 hq2 hN2 hFx9 hFt TG MK
    go_wp2_with fail
    refine LV.out.mono ?_
    rintro e v10 ⟨A, cap, L, rfl, hLp, hLs, hLa, hLc, hLm, hF10⟩
    obtain rfl := List.perm_singleton.1 hLp
    obtain ⟨q3, rfl, hq3, hcell⟩ := hLa 0 _ rfl
    have hL1 : ([⟨mcH, 1, [117], false, p⟩] : List Ses).length = 1 := rfl
    rw [hL1] at hLc ⊢
    have hgl := HGL.out
    have hq1 := HQ1.out
    have hn1 : q1 ∉ [g, xa, xb] := by simp; omega
    have hb1 := hF10.blk (HFT.out.blk HN1.out hn1) (by simp)
    have HFE : Hid (Fr [] w v10) := Lib.hid (((HF1.out.trans HW4.out).sub HFT.out (by
      have h1 := HGS.out
      have h2 := HQM.out
      intro x hx
      simp at hx
      right
      omega)).trans hF10)
    have HY : Hid (∀ W, Fr [] v10 W → (fun W => W.cell? ⟨q1, 0, none⟩ = some (.int .u8 1) ∧ W.cell? ⟨q1, 1, none⟩ = some (.int .u8 0) ∧ W.cell? ⟨q1, 2, none⟩ = some (.int .u8 0) ∧ W.cell? ⟨q1, 3, none⟩ = some (.int .u8 0) ∧ W.cell? ⟨q1, 4, none⟩ = some (.int .u8 0) ∧ W.cell? ⟨q1, 5, none⟩ = some (.int .u8 0) ∧ W.cell? ⟨qh, 0, none⟩ = some (.int .u8 1) ∧ W.cell? ⟨qh, 1, none⟩ = some (.int .u8 0) ∧ W.cell? ⟨qh, 2, none⟩ = some (.int .u8 0) ∧ W.cell? ⟨qh, 3, none⟩ = some (.int .u8 0) ∧ W.cell? ⟨qh, 4, none⟩ = some (.int .u8 0) ∧ W.cell? ⟨qh, 5, none⟩ = some (.int .u8 0) ∧ W.cell? ⟨q3, 0, none⟩ = some (.int .u8 1) ∧ W.cell? ⟨q3, 1, none⟩ = some (.int .u8 0) ∧ W.cell? ⟨q3, 2, none⟩ = some (.int .u8 0) ∧ W.cell? ⟨q3, 3, none⟩ = some (.int .u8 0) ∧ W.cell? ⟨q3, 4, none⟩ = some (.int .u8 0) ∧ W.cell? ⟨q3, 5, none⟩ = some (.int .u8 0) ∧ W.cell? ⟨q3, 6, none⟩ = some (.int .i64 1) ∧ W.cell? ⟨q3, 7, none⟩ = some (.string ⟨#[117]⟩)) W) := Lib.hid fun W hW => by
      have hb := hW.blk hb1 (by simp)
      obtain ⟨h0, h1, h2, h3, h4, h5, _⟩ := HX.out _ (HFT.out.trans ((hF10.trans hW).mono (by simp)))
      have hc := hcell W hW
      exact ⟨hb.c 0 _ rfl, hb.c 1 _ rfl, hb.c 2 _ rfl, hb.c 3 _ rfl, hb.c 4 _ rfl, hb.c 5 _ rfl, h0, h1, h2, h3, h4, h5, hc 0 _ rfl, hc 1 _ rfl, hc 2 _ rfl, hc 3 _ rfl, hc 4 _ rfl, hc 5 _ rfl, hc 6 _ rfl, hc 7 _ rfl⟩
    have heq : ∀ W, (Op.equalIn 10000 28 (.agg #[.int .u8 1, .int .u8 0, .int .u8 0, .int .u8 0, .int .u8 0, .int .u8 0]) (.agg #[.int .u8 1, .int .u8 0, .int .u8 0, .int .u8 0, .int .u8 0, .int .u8 0])).run Try.prog W = .ok true W := fun W => by
      have := eq_mac 9998 mcH mcH W
      rwa [mcEq_self] at this
    have hG8 := HY.out _ (Fr.refl _ v10).drew
    clear LV hLp hLs hLa hcell hb1 hn1 hq1 hgl hF10 HX
    go_wp2_with fail
    go_region_held3 (fun W => W.cell? ⟨q1, 0, none⟩ = some (.int .u8 1) ∧ W.cell? ⟨q1, 1, none⟩ = some (.int .u8 0) ∧ W.cell? ⟨q1, 2, none⟩ = some (.int .u8 0) ∧ W.cell? ⟨q1, 3, none⟩ = some (.int .u8 0) ∧ W.cell? ⟨q1, 4, none⟩ = some (.int .u8 0) ∧ W.cell? ⟨q1, 5, none⟩ = some (.int .u8 0) ∧ W.cell? ⟨qh, 0, none⟩ = some (.int .u8 1) ∧ W.cell? ⟨qh, 1, none⟩ = some (.int .u8 0) ∧ W.cell? ⟨qh, 2, none⟩ = some (.int .u8 0) ∧ W.cell? ⟨qh, 3, none⟩ = some (.int .u8 0) ∧ W.cell? ⟨qh, 4, none⟩ = some (.int .u8 0) ∧ W.cell? ⟨qh, 5, none⟩ = some (.int .u8 0) ∧ W.cell? ⟨q3, 0, none⟩ = some (.int .u8 1) ∧ W.cell? ⟨q3, 1, none⟩ = some (.int .u8 0) ∧ W.cell? ⟨q3, 2, none⟩ = some (.int .u8 0) ∧ W.cell? ⟨q3, 3, none⟩ = some (.int .u8 0) ∧ W.cell? ⟨q3, 4, none⟩ = some (.int .u8 0) ∧ W.cell? ⟨q3, 5, none⟩ = some (.int .u8 0) ∧ W.cell? ⟨q3, 6, none⟩ = some (.int .i64 1) ∧ W.cell? ⟨q3, 7, none⟩ = some (.string ⟨#[117]⟩))
      (first | exact hG8 | assumption)
      (fail)
    all_goals
      go_wp2_with fail
      go_ret
      exact ⟨rfl, HFE.out.drew⟩
  refine AllReadyH.cons (o := _) rfl (fun K hK => ?_) AllReadyH.nil
  go_simp
  (try go_wp2_with fail)
  have hFx : Fr [] v0 (v0.alloc (.cells #[.int .i64 257, .string ⟨#[]⟩, .int .i64 259, .string ⟨#[117]⟩] 54 (0, 0))) := (Fr.refl _ _).alloc _
  have hTg : TgAt (v0.alloc (.cells #[.int .i64 257, .string ⟨#[]⟩, .int .i64 259, .string ⟨#[117]⟩] 54 (0, 0))) (some ⟨v0.heap.size, 0, none⟩) [(257, []), (259, [117])] := TgAt.of_own (base := 0) (cap := 2) (World.ownsRow_lit (base := 0) (e := 54) (size := 2) v0 #[.int .i64 257, .string ⟨#[]⟩, .int .i64 259, .string ⟨#[117]⟩] 2 (Nat.zero_le _) (by unfold maxLen; omega) rfl)
  obtain ⟨v1, hv⟩ : ∃ X, v0.alloc (.cells #[.int .i64 257, .string ⟨#[]⟩, .int .i64 259, .string ⟨#[117]⟩] 54 (0, 0)) = X := ⟨_, rfl⟩
  obtain ⟨qx, hqx⟩ : ∃ X, v0.heap.size = X := ⟨_, rfl⟩
  rw [hv] at hFx hTg ⊢
  rw [hqx] at hTg ⊢
  (try go_wp2_with fail)
  refine hK.out _ _ ?_ (fun hHeld1 => ?_)
  · (try dsimp only); exact HX.out _ (hHeld.2.trans hFx)
  clear hK K
  have hHeld := hHeld1
  clear hHeld1
  try simp only [Act.put, List.setIfInBounds_toArray, List.set_cons_zero, List.set_cons_succ]
  clear hv hqx
  clear hFx
  refine wpAnyH_ready (rs := [2]) (by kernel_rfl) (by simp) ?_
  refine AllReadyH.cons (o := _) rfl (fun K hK => ?_) AllReadyH.nil
  go_simp
  refine (all_any _).mono ?_
  rintro e v2 ⟨rfl, hFx⟩
  (try go_wp2_with fail)
  refine hK.out _ _ ?_ (fun hHeld1 => ?_)
  · (try dsimp only); exact HX.out _ (hHeld.2.trans hFx)
  clear hK K
  have hHeld := hHeld1
  clear hHeld1
  try simp only [Act.put, List.setIfInBounds_toArray, List.set_cons_zero, List.set_cons_succ]
  replace hTg := hTg.fr0 hFx
  clear hFx
  refine wpAnyH_ready (rs := [6]) (by kernel_rfl) (by simp) ?_
  refine AllReadyH.cons (o := _) rfl (fun K hK => ?_) AllReadyH.nil
  go_simp
  refine (asked_ok (w := v2) mcH mcF 9 0 hTg (fun x hx => (tagok5 x hx).1) (by simp) (by simp) (by unfold maxLen; omega) (by simp [tgsB, tgB_len]) (by decide) (by decide) (by decide) (by decide)).mono ?_
  rintro e v3 ⟨rfl, hFx⟩
  (try go_wp2_with fail)
  refine hK.out _ _ ?_ (fun hHeld1 => ?_)
  · (try dsimp only); exact HX.out _ (hHeld.2.trans hFx)
  clear hK K
  have hHeld := hHeld1
  clear hHeld1
  try simp only [Act.put, List.setIfInBounds_toArray, List.set_cons_zero, List.set_cons_succ]
  clear hTg
  refine wpAnyH_ready (rs := [7]) (by kernel_rfl) (by simp) ?_
  refine AllReadyH.cons (o := _) rfl (fun K hK => ?_) AllReadyH.nil
  go_simp
  have h3s := hHeld.2.size
  refine (TP.out v3 (hHeld.2)).mono ?_
  rintro e v4 ⟨v, rfl, q1, hv1, hq1, hN1, hFx⟩
  injection hv1 with hv1
  subst hv1
  (try go_wp2_with fail)
  refine hK.out _ _ ?_ (fun hHeld1 => ?_)
  · (try dsimp only); exact HX.out _ (hHeld.2.trans hFx)
  clear hK K
  have hHeld := hHeld1
  clear hHeld1
  try simp only [Act.put, List.setIfInBounds_toArray, List.set_cons_zero, List.set_cons_succ]
  refine take_yes 8 5 rfl rfl (by kernel_rfl) (by kernel_rfl) (by kernel_rfl) (fun _ _ _ h => h) (by rfl) (by assumption) (v := ?_) ?_ ?_
  rotate_left
  · intro w hSw; (try dsimp only at hSw); go_simp; (try with_reducible rfl)
  try simp only [Act.put, List.setIfInBounds_toArray, List.set_cons_zero, List.set_cons_succ]
  refine wpAnyH_done (by kernel_rfl) ?_ _
  have HW4 := Lib.hid hHeld.2
  have HN1 := Lib.hid hN1
  have HQ1 : Hid (w1.heap.size ≤ q1) := Lib.hid (Nat.le_trans h3s hq1)
  have HQL := Lib.hid hN1.lt
  clear hHeld hFx hN1 hq1 h3s TP HX
  have HX : Hid (∀ W, Fr [g, xa, xb] v4 W → (fun W => W.cell? ⟨qh, 0, none⟩ = some (.int .u8 1) ∧ W.cell? ⟨qh, 1, none⟩ = some (.int .u8 0) ∧ W.cell? ⟨qh, 2, none⟩ = some (.int .u8 0) ∧ W.cell? ⟨qh, 3, none⟩ = some (.int .u8 0) ∧ W.cell? ⟨qh, 4, none⟩ = some (.int .u8 0) ∧ W.cell? ⟨qh, 5, none⟩ = some (.int .u8 0) ∧ W.cell? ⟨qm, 0, none⟩ = some (.int .u8 9) ∧ W.cell? ⟨qm, 1, none⟩ = some (.int .u8 0) ∧ W.cell? ⟨qm, 2, none⟩ = some (.int .u8 0) ∧ W.cell? ⟨qm, 3, none⟩ = some (.int .u8 0) ∧ W.cell? ⟨qm, 4, none⟩ = some (.int .u8 0) ∧ W.cell? ⟨qm, 5, none⟩ = some (.int .u8 0)) W) := Lib.hid fun W hW => by
    have ha : qh ∉ [g, xa, xb] ∧ qm ∉ [g, xa, xb] := by
      have h1 := HGS.out
      have h2 := HQH.out
      simp; omega
    have hb := hW.blk (HW4.out.blk HH1.out (by simp)) ha.1
    have hb2 := hW.blk (HW4.out.blk HM1.out (by simp)) ha.2
    exact ⟨hb.c 0 _ rfl, hb.c 1 _ rfl, hb.c 2 _ rfl, hb.c 3 _ rfl, hb.c 4 _ rfl, hb.c 5 _ rfl, hb2.c 0 _ rfl, hb2.c 1 _ rfl, hb2.c 2 _ rfl, hb2.c 3 _ rfl, hb2.c 4 _ rfl, hb2.c 5 _ rfl⟩
  have hG0 := HX.out _ (Fr.refl _ v4).drew
  go_wp2_with fail
  refine wp_region_held_drew (S := (fun W => W.cell? ⟨qh, 0, none⟩ = some (.int .u8 1) ∧ W.cell? ⟨qh, 1, none⟩ = some (.int .u8 0) ∧ W.cell? ⟨qh, 2, none⟩ = some (.int .u8 0) ∧ W.cell? ⟨qh, 3, none⟩ = some (.int .u8 0) ∧ W.cell? ⟨qh, 4, none⟩ = some (.int .u8 0) ∧ W.cell? ⟨qh, 5, none⟩ = some (.int .u8 0) ∧ W.cell? ⟨qm, 0, none⟩ = some (.int .u8 9) ∧ W.cell? ⟨qm, 1, none⟩ = some (.int .u8 0) ∧ W.cell? ⟨qm, 2, none⟩ = some (.int .u8 0) ∧ W.cell? ⟨qm, 3, none⟩ = some (.int .u8 0) ∧ W.cell? ⟨qm, 4, none⟩ = some (.int .u8 0) ∧ W.cell? ⟨qm, 5, none⟩ = some (.int .u8 0))) (by kernel_rfl) ?_ (fun hHeld => ?_)
  · (try dsimp only); exact hG0
  have hZ := (Fr.refl [] v4).drew
  obtain ⟨v5, hv⟩ : ∃ X, v4.drew = X := ⟨_, rfl⟩
  rw [hv] at hHeld hZ ⊢
  clear hv hG0
  refine take_yes 0 29 rfl rfl (by kernel_rfl) (by kernel_rfl) (by kernel_rfl) (fun _ _ _ h => h) (by rfl) (by assumption) (v := ?_) ?_ ?_
  rotate_left
  · intro w hSw; (try dsimp only at hSw); go_simp; (try with_reducible rfl)
  try simp only [Act.put, List.setIfInBounds_toArray, List.set_cons_zero, List.set_cons_succ]
  refine take_yes 1 30 rfl rfl (by kernel_rfl) (by kernel_rfl) (by kernel_rfl) (fun _ _ _ h => h) (by rfl) (by assumption) (v := ?_) ?_ ?_
  rotate_left
  · intro w hSw; (try dsimp only at hSw); go_simp; (try with_reducible rfl)
  try simp only [Act.put, List.setIfInBounds_toArray, List.set_cons_zero, List.set_cons_succ]
  refine take_yes 2 31 rfl rfl (by kernel_rfl) (by kernel_rfl) (by kernel_rfl) (fun _ _ _ h => h) (by rfl) (by assumption) (v := ?_) ?_ ?_
  rotate_left
  · intro w hSw; (try dsimp only at hSw); go_simp; (try with_reducible rfl)
  try simp only [Act.put, List.setIfInBounds_toArray, List.set_cons_zero, List.set_cons_succ]
  refine take_yes 3 32 rfl rfl (by kernel_rfl) (by kernel_rfl) (by kernel_rfl) (fun _ _ _ h => h) (by rfl) (by assumption) (v := ?_) ?_ ?_
  rotate_left
  · intro w hSw; (try dsimp only at hSw); go_simp; (try with_reducible rfl)
  try simp only [Act.put, List.setIfInBounds_toArray, List.set_cons_zero, List.set_cons_succ]
  refine take_yes 4 33 rfl rfl (by kernel_rfl) (by kernel_rfl) (by kernel_rfl) (fun _ _ _ h => h) (by rfl) (by assumption) (v := ?_) ?_ ?_
  rotate_left
  · intro w hSw; (try dsimp only at hSw); go_simp; (try with_reducible rfl)
  try simp only [Act.put, List.setIfInBounds_toArray, List.set_cons_zero, List.set_cons_succ]
  refine take_yes 7 36 rfl rfl (by kernel_rfl) (by kernel_rfl) (by kernel_rfl) (fun _ _ _ h => h) (by rfl) (by assumption) (v := ?_) ?_ ?_
  rotate_left
  · intro w hSw; (try dsimp only at hSw); go_simp; (try with_reducible rfl)
  try simp only [Act.put, List.setIfInBounds_toArray, List.set_cons_zero, List.set_cons_succ]
  refine wpAnyH_ready (rs := [5]) (by kernel_rfl) (by simp) ?_
  refine AllReadyH.cons (o := _) rfl (fun K hK => ?_) AllReadyH.nil
  go_simp
  refine (MK.out _ _ _ rfl rfl).mono ?_
  rintro e v6 ⟨rfl, hFx⟩
  (try go_wp2_with fail)
  refine hK.out _ _ ?_ (fun hHeld1 => ?_)
  · (try dsimp only); exact HX.out _ ((hZ.trans hFx).mono (by simp))
  clear hK K
  replace hZ := hZ.trans hFx
  have hHeld := hHeld1
  clear hHeld1
  try simp only [Act.put, List.setIfInBounds_toArray, List.set_cons_zero, List.set_cons_succ]
  clear hFx
  refine take_yes 6 35 rfl rfl (by kernel_rfl) (by kernel_rfl) (by kernel_rfl) (fun _ _ _ h => h) (by rfl) (by assumption) (v := ?_) ?_ ?_
  rotate_left
  · intro w hSw; (try dsimp only at hSw); go_simp; (try with_reducible rfl)
  try simp only [Act.put, List.setIfInBounds_toArray, List.set_cons_zero, List.set_cons_succ]
  refine wpAnyH_ready (rs := [8]) (by kernel_rfl) (by simp) ?_
  refine AllReadyH.cons (o := _) rfl (fun K hK => ?_) AllReadyH.nil
  go_simp
  (try go_wp2_with fail)
  have hFx : Fr [] v6 (v6.alloc (.cells #[.int .i64 257, .string ⟨#[]⟩, .int .i64 260, .string (B CK), .int .i64 259, .string ⟨#[117]⟩] 54 (0, 0))) := (Fr.refl _ _).alloc _
  have hTg : TgAt (v6.alloc (.cells #[.int .i64 257, .string ⟨#[]⟩, .int .i64 260, .string (B CK), .int .i64 259, .string ⟨#[117]⟩] 54 (0, 0))) (some ⟨v6.heap.size, 0, none⟩) [(257, []), (260, CK), (259, [117])] := TgAt.of_own (base := 0) (cap := 3) (World.ownsRow_lit (base := 0) (e := 54) (size := 2) v6 #[.int .i64 257, .string ⟨#[]⟩, .int .i64 260, .string (B CK), .int .i64 259, .string ⟨#[117]⟩] 3 (Nat.zero_le _) (by unfold maxLen; omega) rfl)
  obtain ⟨v7, hv⟩ : ∃ X, v6.alloc (.cells #[.int .i64 257, .string ⟨#[]⟩, .int .i64 260, .string (B CK), .int .i64 259, .string ⟨#[117]⟩] 54 (0, 0)) = X := ⟨_, rfl⟩
  obtain ⟨qx, hqx⟩ : ∃ X, v6.heap.size = X := ⟨_, rfl⟩
  rw [hv] at hFx hTg ⊢
  rw [hqx] at hTg ⊢
  (try go_wp2_with fail)
  refine hK.out _ _ ?_ (fun hHeld1 => ?_)
  · (try dsimp only); exact HX.out _ ((hZ.trans hFx).mono (by simp))
  clear hK K
  replace hZ := hZ.trans hFx
  have hHeld := hHeld1
  clear hHeld1
  try simp only [Act.put, List.setIfInBounds_toArray, List.set_cons_zero, List.set_cons_succ]
  clear hv hqx
  clear hFx
  refine wpAnyH_ready (rs := [9]) (by kernel_rfl) (by simp) ?_
  refine AllReadyH.cons (o := _) rfl (fun K hK => ?_) AllReadyH.nil
  go_simp
  refine (asked_ok (w := v7) mcH mc9 25 0 hTg (fun x hx => (tagok6 CK HCK.out x hx).1) (by simp) (by simp) (by unfold maxLen; omega) (by simp [tgsB, tgB_len, HCK.out]) (by decide) (by decide) (by decide) (by decide)).mono ?_
  rintro e v8 ⟨rfl, hFx⟩
  (try go_wp2_with fail)
  refine hK.out _ _ ?_ (fun hHeld1 => ?_)
  · (try dsimp only); exact HX.out _ ((hZ.trans hFx).mono (by simp))
  clear hK K
  replace hZ := hZ.trans hFx
  have hHeld := hHeld1
  clear hHeld1
  try simp only [Act.put, List.setIfInBounds_toArray, List.set_cons_zero, List.set_cons_succ]
  clear hTg hFx
  refine wpAnyH_ready (rs := [10]) (by kernel_rfl) (by simp) ?_
  refine AllReadyH.cons (o := _) rfl (fun K hK => ?_) AllReadyH.nil
  go_simp
  refine (TG.out v8 (HW4.out.trans hZ)).mono ?_
  rintro e v9 ⟨v, rfl, W9, hF9, p, hp, hC9, q2, hv2, hq2, hN2, hFx9⟩
  injection hv2 with hv2
  subst hv2
  have hFt : Fr [g, xa, xb] v4 v9 := ((hZ.trans hF9).mono (by simp)).trans hFx9
  (try go_wp2_with fail)
  refine hK.out _ _ ?_ (fun hHeld1 => ?_)
  · (try dsimp only); exact HX.out _ hFt
  clear hK K
  try simp only [Act.put, List.setIfInBounds_toArray, List.set_cons_zero, List.set_cons_succ]
  refine take_yes 11 6 rfl rfl (by kernel_rfl) (by kernel_rfl) (by kernel_rfl) (fun _ _ _ h => h) (by rfl) (by assumption) (v := ?_) ?_ ?_
  rotate_left
  · intro w hSw; (try dsimp only at hSw); go_simp; (try with_reducible rfl)
  try simp only [Act.put, List.setIfInBounds_toArray, List.set_cons_zero, List.set_cons_succ]
  refine wpAnyH_done (by kernel_rfl) ?_ _
  have LV := Lib.hid (live_ok hC9 (by simp))
  have HFT := Lib.hid hFt
  clear hHeld hHeld1 hZ hF9 hp hC9 hq2 hN2 hFx9 hFt TG MK
  go_wp2_with fail
  refine LV.out.mono ?_
  rintro e v10 ⟨A, cap, L, rfl, hLp, hLs, hLa, hLc, hLm, hF10⟩
  obtain rfl := List.perm_singleton.1 hLp
  obtain ⟨q3, rfl, hq3, hcell⟩ := hLa 0 _ rfl
  have hL1 : ([⟨mcH, 1, [117], false, p⟩] : List Ses).length = 1 := rfl
  rw [hL1] at hLc ⊢
  have hgl := HGL.out
  have hq1 := HQ1.out
  have hn1 : q1 ∉ [g, xa, xb] := by simp; omega
  have hb1 := hF10.blk (HFT.out.blk HN1.out hn1) (by simp)
  have HFE : Hid (Fr [] w v10) := Lib.hid (((HF1.out.trans HW4.out).sub HFT.out (by
    have h1 := HGS.out
    have h2 := HQM.out
    intro x hx
    simp at hx
    right
    omega)).trans hF10)
  have HY : Hid (∀ W, Fr [] v10 W → (fun W => W.cell? ⟨q1, 0, none⟩ = some (.int .u8 1) ∧ W.cell? ⟨q1, 1, none⟩ = some (.int .u8 0) ∧ W.cell? ⟨q1, 2, none⟩ = some (.int .u8 0) ∧ W.cell? ⟨q1, 3, none⟩ = some (.int .u8 0) ∧ W.cell? ⟨q1, 4, none⟩ = some (.int .u8 0) ∧ W.cell? ⟨q1, 5, none⟩ = some (.int .u8 0) ∧ W.cell? ⟨qh, 0, none⟩ = some (.int .u8 1) ∧ W.cell? ⟨qh, 1, none⟩ = some (.int .u8 0) ∧ W.cell? ⟨qh, 2, none⟩ = some (.int .u8 0) ∧ W.cell? ⟨qh, 3, none⟩ = some (.int .u8 0) ∧ W.cell? ⟨qh, 4, none⟩ = some (.int .u8 0) ∧ W.cell? ⟨qh, 5, none⟩ = some (.int .u8 0) ∧ W.cell? ⟨q3, 0, none⟩ = some (.int .u8 1) ∧ W.cell? ⟨q3, 1, none⟩ = some (.int .u8 0) ∧ W.cell? ⟨q3, 2, none⟩ = some (.int .u8 0) ∧ W.cell? ⟨q3, 3, none⟩ = some (.int .u8 0) ∧ W.cell? ⟨q3, 4, none⟩ = some (.int .u8 0) ∧ W.cell? ⟨q3, 5, none⟩ = some (.int .u8 0) ∧ W.cell? ⟨q3, 6, none⟩ = some (.int .i64 1) ∧ W.cell? ⟨q3, 7, none⟩ = some (.string ⟨#[117]⟩)) W) := Lib.hid fun W hW => by
    have hb := hW.blk hb1 (by simp)
    obtain ⟨h0, h1, h2, h3, h4, h5, _⟩ := HX.out _ (HFT.out.trans ((hF10.trans hW).mono (by simp)))
    have hc := hcell W hW
    exact ⟨hb.c 0 _ rfl, hb.c 1 _ rfl, hb.c 2 _ rfl, hb.c 3 _ rfl, hb.c 4 _ rfl, hb.c 5 _ rfl, h0, h1, h2, h3, h4, h5, hc 0 _ rfl, hc 1 _ rfl, hc 2 _ rfl, hc 3 _ rfl, hc 4 _ rfl, hc 5 _ rfl, hc 6 _ rfl, hc 7 _ rfl⟩
  have heq : ∀ W, (Op.equalIn 10000 28 (.agg #[.int .u8 1, .int .u8 0, .int .u8 0, .int .u8 0, .int .u8 0, .int .u8 0]) (.agg #[.int .u8 1, .int .u8 0, .int .u8 0, .int .u8 0, .int .u8 0, .int .u8 0])).run Try.prog W = .ok true W := fun W => by
    have := eq_mac 9998 mcH mcH W
    rwa [mcEq_self] at this
  have hG8 := HY.out _ (Fr.refl _ v10).drew
  clear LV hLp hLs hLa hcell hb1 hn1 hq1 hgl hF10 HX
  go_wp2_with fail
  go_region_held3 (fun W => W.cell? ⟨q1, 0, none⟩ = some (.int .u8 1) ∧ W.cell? ⟨q1, 1, none⟩ = some (.int .u8 0) ∧ W.cell? ⟨q1, 2, none⟩ = some (.int .u8 0) ∧ W.cell? ⟨q1, 3, none⟩ = some (.int .u8 0) ∧ W.cell? ⟨q1, 4, none⟩ = some (.int .u8 0) ∧ W.cell? ⟨q1, 5, none⟩ = some (.int .u8 0) ∧ W.cell? ⟨qh, 0, none⟩ = some (.int .u8 1) ∧ W.cell? ⟨qh, 1, none⟩ = some (.int .u8 0) ∧ W.cell? ⟨qh, 2, none⟩ = some (.int .u8 0) ∧ W.cell? ⟨qh, 3, none⟩ = some (.int .u8 0) ∧ W.cell? ⟨qh, 4, none⟩ = some (.int .u8 0) ∧ W.cell? ⟨qh, 5, none⟩ = some (.int .u8 0) ∧ W.cell? ⟨q3, 0, none⟩ = some (.int .u8 1) ∧ W.cell? ⟨q3, 1, none⟩ = some (.int .u8 0) ∧ W.cell? ⟨q3, 2, none⟩ = some (.int .u8 0) ∧ W.cell? ⟨q3, 3, none⟩ = some (.int .u8 0) ∧ W.cell? ⟨q3, 4, none⟩ = some (.int .u8 0) ∧ W.cell? ⟨q3, 5, none⟩ = some (.int .u8 0) ∧ W.cell? ⟨q3, 6, none⟩ = some (.int .i64 1) ∧ W.cell? ⟨q3, 7, none⟩ = some (.string ⟨#[117]⟩))
    (first | exact hG8 | assumption)
    (fail)
  all_goals
    go_wp2_with fail
    go_ret
    exact ⟨rfl, HFE.out.drew⟩
end Go.Proofs.Ytcdencpkgfehlaa
