/- the document's clock: Set (printed by tools/gen_dclk3.py). -/
import Derived.Test.YtfchbppfbepelaaGreatDClk2
namespace Go.Proofs.YtfchbppfbepelaaGreat
open Go.RowKit
set_option linter.unusedVariables false
def tsE (D : List DT) (k : Ky) (a : Int) : Int := if a < 1 ∨ 2147483647 < a then 1 else if tHas D k = false ∧ 300 ≤ D.length then 10 else 0
def tsL (n : Int) (D : List DT) (k : Ky) (a : Int) : List DT := if tsE D k a = 0 then dcCut D k ++ [(k, n + a)] else D
def TSetP (w : World) (g : Nat) (n : Int) (r : Value) (D : List DT) (k : Ky) (a : Int) (e : Ending) (w' : World) : Prop := e = .returned (.int .i64 (tsE D k a)) ∧ ∃ r', DCk w' g n r' (tsL n D k a) ∧ (∀ k, r'.ownBlock = some k → r.ownBlock = some k ∨ w.heap.size ≤ k) ∧ Fr [g] w w'
def AddE (w : World) (g : Nat) (n : Int) (D : List DT) (k : Ky) (a : Int) (w' : World) : Prop := ∃ r', DCk w' g n r' (D ++ [(k, n + a)]) ∧ (∀ k, r'.ownBlock = some k → w.heap.size ≤ k) ∧ Fr [g] w w'
theorem dcCut_le (D : List DT) (k : Ky) : (dcCut D k).length ≤ D.length := by
  unfold dcCut
  split
  · exact List.length_eraseIdx_le _ _
  · exact Nat.le_refl _
section
variable {w : World} {g : Nat} {n : Int} {r : Value} {D : List DT}
theorem dcSet_bad (k1 k2 a : Int) (ha : a < 1 ∨ 2147483647 < a) (h : DCk w g n r D) :
    Calls Tryz.prog 69 #[.pointer (some ⟨g, 0, none⟩), .int .i64 k1, .int .i64 k2, .int .i64 a] w fun e w' => e = .returned (.int .i64 1) ∧ w' = w := by
  have hX : a < 1 ∨ ¬ a < 1 ∧ 2147483647 < a := by omega
  clear ha
  rcases hX with h1 | ⟨h1, h2⟩
  all_goals
    go_enter Tryz.func69, Tryz.ntmps69
    go_wp2_with fail
    go_ret
    exact ⟨rfl, rfl⟩
theorem dcSet_full (k1 k2 a : Int) (h1 : ¬ a < 1) (h2 : ¬ 2147483647 < a) (hh : tHas D (k1, k2) = false) (hf : 300 ≤ D.length) (hl : D.length ≤ 1000) (h : DCk w g n r D) :
    Calls Tryz.prog 69 #[.pointer (some ⟨g, 0, none⟩), .int .i64 k1, .int .i64 k2, .int .i64 a] w fun e w' => e = .returned (.int .i64 10) ∧ Fr [] w w' := by
  have WH := dcWhen k1 k2 hl h
  rw [hh] at WH
  obtain ⟨T, hT⟩ : ∃ T, tAt D (k1, k2) = T := ⟨_, rfl⟩
  rw [hT] at WH
  have WH := Lib.hid WH
  obtain ⟨A, cap, rfl⟩ := rown_slice h.row
  have HC : Hid (∀ W, Fr [] w W → W.cell? ⟨g, 1, none⟩ = some (.slice A D.length cap)) := Lib.hid fun W hW => (hW.blk h.st (by simp)).c 1 _ rfl
  have hf1 : ¬ (D.length : Int) < 300 := by omega
  have hf2 : (300 : Int) ≤ D.length := by omega
  clear h hT hh hf hl
  go_enter Tryz.func69, Tryz.ntmps69
  go_wp2_with fail
  refine WH.out.mono ?_
  rintro e w1 ⟨rfl, hF1⟩
  have g1 := HC.out _ hF1
  have HF := Lib.hid hF1
  clear hF1
  go_wp2_with fail
  go_ret
  exact ⟨rfl, HF.out⟩
set_option maxRecDepth 100000 in
set_option maxHeartbeats 16000000 in
theorem dcSet_ok (k1 k2 a : Int) (h1 : 1 ≤ a) (h2 : a ≤ 2147483647) (n0 : 0 ≤ n) (n1 : n ≤ 1152921504606846976) (hh : tHas D (k1, k2) = true ∨ tHas D (k1, k2) = false ∧ D.length < 300) (hl : D.length ≤ 1000) (h : DCk w g n r D) :
    Calls Tryz.prog 69 #[.pointer (some ⟨g, 0, none⟩), .int .i64 k1, .int .i64 k2, .int .i64 a] w fun e w' => e = .returned (.int .i64 0) ∧ AddE w g n (dcCut D (k1, k2)) (k1, k2) a w' := by
  obtain ⟨i0, hi0, hz0, hz1, hz2⟩ := info_parts infoTmr
  have WH := dcWhen k1 k2 hl h
  obtain ⟨T, hT⟩ : ∃ T, tAt D (k1, k2) = T := ⟨_, rfl⟩
  obtain ⟨hb, hhb⟩ : ∃ T, tHas D (k1, k2) = T := ⟨_, rfl⟩
  rw [hT, hhb] at WH
  rw [hhb] at hh
  have WH := Lib.hid WH
  have HH := Lib.hid h
  have CN := Lib.hid fun (W : World) (hW : Fr [] w W) => dcCancel k1 k2 hl (h.fr0 hW)
  obtain ⟨A0, cap0, rfl⟩ := rown_slice h.row
  have HC : Hid (∀ W, Fr [] w W → W.cell? ⟨g, 1, none⟩ = some (.slice A0 D.length cap0)) := Lib.hid fun W hW => (hW.blk h.st (by simp)).c 1 _ rfl
  have ha1 : ¬ a < 1 := by omega
  have ha2 : ¬ 2147483647 < a := by omega
  have HA := Lib.hid (And.intro h1 (And.intro h2 (And.intro n0 n1)))
  have HL0 := Lib.hid hl
  clear h hT hhb hl h1 h2 n0 n1
  go_enter Tryz.func69, Tryz.ntmps69
  go_wp2_with fail
  refine WH.out.mono ?_
  rintro e w1 ⟨rfl, hF1⟩
  have g1 := HC.out _ hF1
  have CN1 := Lib.hid (CN.out _ hF1)
  have HF1 := Lib.hid hF1
  have hcond : (300 : Int) ≤ D.length ∧ hb = true ∨ ¬ (300 : Int) ≤ D.length := by
    rcases hh with e | ⟨_, e⟩
    · by_cases hx : (300 : Int) ≤ D.length
      · exact Or.inl ⟨hx, e⟩
      · exact Or.inr hx
    · exact Or.inr (by omega)
  clear hF1 CN HC WH hh
  have main : ∀ (w2 : World) (r2 : Value), DCk w2 g n r2 (dcCut D (k1, k2)) → Fr [g] w w2 → True := fun _ _ _ _ => trivial
  clear main
  rcases hcond with ⟨hx, rfl⟩ | hx
  all_goals
    go_wp2_with fail
    refine CN1.out.mono ?_
    rintro e w2 ⟨rfl, r2, hD0, _, hF2⟩
    clear g1 hx
    have HFw := Lib.hid ((HF1.out.mono (S' := [g]) (by simp)).trans hF2)
    have hdl := dcCut_le D (k1, k2)
    obtain ⟨D', hD'⟩ : ∃ X, dcCut D (k1, k2) = X := ⟨_, rfl⟩
    rw [hD'] at hD0 hdl
    have HL : Hid (D'.length ≤ 1000) := Lib.hid (Nat.le_trans hdl HL0.out)
    obtain ⟨A, cap, rfl⟩ := rown_slice hD0.row
    have HGL : Hid (g < w2.heap.size) := Lib.hid hD0.st.lt
    have hD : DCk w2.drew g n (.slice A D'.length cap) D' := hD0.fr0 (Fr.refl [] w2).drew
    have hFd : Fr [g] w2 w2.drew := (Fr.refl [g] w2).drew
    have HEND : Hid (∀ W A2 c2, Blk W g #[.int .i64 n, .slice A2 (D'.length + 1) c2] 134 → W.ownsRow 0 151 3 (.slice A2 (D'.length + 1) c2) (D'.length + 1) (rowF tmF D' ++ [.int .i64 k1, .int .i64 k2, .int .i64 (n + a)]) → (∀ k, (Value.slice A2 (D'.length + 1) c2).ownBlock = some k → w2.heap.size ≤ k) → Fr [g] w2 W → AddE w g n (dcCut D (k1, k2)) (k1, k2) a W) := Lib.hid fun W A2 c2 q1 q2 q3 q4 => by
      rw [hD']
      have e1 : (D' ++ [((k1, k2), n + a)]).length = D'.length + 1 := by simp
      have e2 : rowF tmF (D' ++ [((k1, k2), n + a)]) = rowF tmF D' ++ [.int .i64 k1, .int .i64 k2, .int .i64 (n + a)] := by rw [rowF_append, rowF_one]; rfl
      refine ⟨_, ⟨q1, ?_⟩, fun k hk => Nat.le_trans HFw.out.size (q3 k hk), HFw.out.trans q4⟩
      rw [e1, e2]
      exact q2
    have hnw : IntKind.i64.wrap (n + a) = n + a := by have := HA.out; rw [IntKind.wrap_i64]; omega
    have hnw2 : wrap64 (n + a) = n + a := by have := HA.out; unfold wrap64; omega
    clear hD0 hF2 hdl hD'
    go_wp2_with fail
    refine wp_region_held_drew (S := (fun W => Fr [g] w2 W)) (by kernel_rfl) ?_ (fun hHeld => ?_)
    · (try dsimp only); exact hFd
    obtain ⟨v0, hv⟩ : ∃ X, w2.drew = X := ⟨_, rfl⟩
    rw [hv] at hHeld hD ⊢
    clear hv hFd
    refine take_yes 0 38 rfl rfl (by kernel_rfl) (by kernel_rfl) (by kernel_rfl) (fun _ _ _ h => h) (by rfl) (by assumption) (v := ?_) ?_ ?_
    rotate_left
    · intro w hSw; (try dsimp only at hSw); go_simp; (try with_reducible rfl)
    try simp only [Act.put, List.setIfInBounds_toArray, List.set_cons_zero, List.set_cons_succ]
    refine take_yes 1 39 rfl rfl (by kernel_rfl) (by kernel_rfl) (by kernel_rfl) (fun _ _ _ h => h) (by rfl) (by assumption) (v := ?_) ?_ ?_
    rotate_left
    · intro w hSw; (try dsimp only at hSw); go_simp; (try with_reducible rfl)
    try simp only [Act.put, List.setIfInBounds_toArray, List.set_cons_zero, List.set_cons_succ]
    refine take_yes 2 40 rfl rfl (by kernel_rfl) (by kernel_rfl) (by kernel_rfl) (fun _ _ _ h => h) (by rfl) (by assumption) (v := ?_) ?_ ?_
    rotate_left
    · intro w hSw; (try dsimp only at hSw); go_simp; (try with_reducible rfl)
    try simp only [Act.put, List.setIfInBounds_toArray, List.set_cons_zero, List.set_cons_succ]
    refine take_yes 3 41 rfl rfl (by kernel_rfl) (by kernel_rfl) (by kernel_rfl) (fun _ _ _ h => h) (by rfl) (by assumption) (v := ?_) ?_ ?_
    rotate_left
    · intro w hSw; (try dsimp only at hSw); go_simp; (try with_reducible rfl)
    try simp only [Act.put, List.setIfInBounds_toArray, List.set_cons_zero, List.set_cons_succ]
    refine take_yes 6 44 rfl rfl (by kernel_rfl) (by kernel_rfl) (by kernel_rfl) (fun _ _ _ h => h) (by rfl) (by assumption) (v := ?_) ?_ ?_
    rotate_left
    · intro w hSw; (try dsimp only at hSw); go_simp; (try with_reducible rfl)
    try simp only [Act.put, List.setIfInBounds_toArray, List.set_cons_zero, List.set_cons_succ]
    refine take_yes 7 45 rfl rfl (by kernel_rfl) (by kernel_rfl) (by kernel_rfl) (fun _ _ _ h => h) (by rfl) (by assumption) (v := ?_) ?_ ?_
    rotate_left
    · intro w hSw; (try dsimp only at hSw); go_simp; (try with_reducible rfl)
    try simp only [Act.put, List.setIfInBounds_toArray, List.set_cons_zero, List.set_cons_succ]
    refine take_yes 8 46 rfl rfl (by kernel_rfl) (by kernel_rfl) (by kernel_rfl) (fun _ _ _ h => h) (by rfl) (by assumption) (v := ?_) ?_ ?_
    rotate_left
    · intro w hSw; (try dsimp only at hSw); go_simp; (try with_reducible rfl)
    try simp only [Act.put, List.setIfInBounds_toArray, List.set_cons_zero, List.set_cons_succ]
    refine take_yes 9 47 rfl rfl (by kernel_rfl) (by kernel_rfl) (by kernel_rfl) (fun _ _ _ h => h) (by rfl) (by assumption) (v := ?_) ?_ ?_
    rotate_left
    · intro w hSw; (try dsimp only at hSw); go_simp; (try with_reducible rfl)
    try simp only [Act.put, List.setIfInBounds_toArray, List.set_cons_zero, List.set_cons_succ]
    refine take_yes 10 48 rfl rfl (by kernel_rfl) (by kernel_rfl) (by kernel_rfl) (fun _ _ _ h => h) (by rfl) (by assumption) (v := ?_) ?_ ?_
    rotate_left
    · intro w hSw; (try dsimp only at hSw); go_simp; (try with_reducible rfl)
    try simp only [Act.put, List.setIfInBounds_toArray, List.set_cons_zero, List.set_cons_succ]
    refine take_yes 12 50 rfl rfl (by kernel_rfl) (by kernel_rfl) (by kernel_rfl) (fun _ _ _ h => h) (by rfl) (by assumption) (v := ?_) ?_ ?_
    rotate_left
    · intro w hSw; (try dsimp only at hSw); go_simp; (try with_reducible rfl)
    try simp only [Act.put, List.setIfInBounds_toArray, List.set_cons_zero, List.set_cons_succ]
    refine wpAnyH_ready (rs := [4, 11]) (by kernel_rfl) (by simp) ?_
    refine AllReadyH.cons (o := _) rfl (fun K hK => ?_) ?_
    · have c2 : v0.cell? ⟨g, 1, none⟩ = some (.slice A D'.length cap) := hD.st.c 1 _ rfl
      go_simp
      (try go_wp2_with fail)
      refine hK.out _ _ ?_ (fun hHeld1 => ?_)
      · (try dsimp only); exact hHeld
      clear hK K hHeld1
      clear c2
      try simp only [Act.put, List.setIfInBounds_toArray, List.set_cons_zero, List.set_cons_succ]
      refine wpAnyH_ready (rs := [5, 11]) (by kernel_rfl) (by simp) ?_
      refine AllReadyH.cons (o := _) rfl (fun K hK => ?_) ?_
      · rw [if_pos (by rfl)]
        (try simp only [List.getElem_toArray, List.getElem_cons_succ, List.getElem_cons_zero])
        refine wp_app _ 43 rfl (.const (.slice none 0 0)) (.tmp 42) 132 rfl 0 151 i0 (.agg #[.int .i64 0, .int .i64 0, .int .i64 0]) 3 24 Tryz.underlying132 hi0 hz0 hz1 hz2 rfl (by decide) _ 0 _ (by rfl) (World.ownsRow_nil _ 0 _ _) _ _ _ _ _ (by rfl) (Reads.of_own hD.row) (rowF_one' tmF_one D') ?_ ?_ (Nat.zero_le _) ?_
        · have := HL.out; unfold maxLen; omega
        · have := HL.out; omega
        intro va v1 hownA hgrA hrowA
        rw [Nat.zero_add, List.nil_append] at hownA
        have hFg := Fr.of_row hgrA
        have hD2 : DCk v1 g n (.slice A D'.length cap) D' := hD.frS hFg (by simp [Value.ownBlock]) (fun k hk => by simp [Value.ownBlock])
        have hHeld2 : Fr [g] w2 v1 := hHeld.grown hgrA (fun k hk => by cases hk)
        have hfa : ∀ k, va.ownBlock = some k → w2.heap.size ≤ k := fun k hk => by
          rcases hrowA with h | h
          · rw [h] at hk; cases hk
          · rw [h] at hk; cases hk; exact hHeld.size
        have hgA : va.ownBlock ≠ some g := fun e => by
          have h1 := hfa g e
          have h2 := HGL.out
          omega
        clear hFg hgrA hrowA
        refine hK.out _ _ ?_ (fun hHeld3 => ?_)
        · (try dsimp only); exact hHeld2
        clear hK K hHeld hD
        have hHeld := hHeld2
        have hD := hD2
        clear hHeld2 hHeld3 hD2
        try simp only [Act.put, List.setIfInBounds_toArray, List.set_cons_zero, List.set_cons_succ]
        refine wpAnyH_ready (rs := [11]) (by kernel_rfl) (by simp) ?_
        refine AllReadyH.cons (o := _) rfl (fun K hK => ?_) AllReadyH.nil
        have c2 : v1.cell? ⟨g, 0, none⟩ = some (.int .i64 n) := hD.st.c 0 _ rfl
        go_simp
        (try go_wp2_with fail)
        refine hK.out _ _ ?_ (fun hHeld1 => ?_)
        · (try dsimp only); exact hHeld
        clear hK K hHeld1
        clear c2
        try simp only [Act.put, List.setIfInBounds_toArray, List.set_cons_zero, List.set_cons_succ]
        refine take_yes 13 51 rfl rfl (by kernel_rfl) (by kernel_rfl) (by kernel_rfl) (fun _ _ _ h => h) (by rfl) (by assumption) (v := ?_) ?_ ?_
        rotate_left
        · intro w hSw; (try dsimp only at hSw); go_simp; (try with_reducible rfl)
        try simp only [Act.put, List.setIfInBounds_toArray, List.set_cons_zero, List.set_cons_succ]
        refine take_yes 14 52 rfl rfl (by kernel_rfl) (by kernel_rfl) (by kernel_rfl) (fun _ _ _ h => h) (by rfl) (by assumption) (v := ?_) ?_ ?_
        rotate_left
        · intro w hSw; (try dsimp only at hSw); go_simp; (try with_reducible rfl)
        try simp only [Act.put, List.setIfInBounds_toArray, List.set_cons_zero, List.set_cons_succ]
        refine wpAnyH_ready (rs := [15]) (by kernel_rfl) (by simp) ?_
        refine AllReadyH.cons (o := _) rfl (fun K hK => ?_) AllReadyH.nil
        go_simp
        (try go_wp2_with fail)
        have hFx : Fr [] v1 (v1.alloc (.cells #[.int .i64 k1, .int .i64 k2, .int .i64 (n + a)] 151 (0, 0))) := (Fr.refl _ _).alloc _
        have hOwnX := World.ownsRow_lit (base := 0) (e := 151) (size := 3) v1 #[.int .i64 k1, .int .i64 k2, .int .i64 (n + a)] 1 (Nat.zero_le _) (by unfold maxLen; omega) rfl
        obtain ⟨v2, hv⟩ : ∃ X, v1.alloc (.cells #[.int .i64 k1, .int .i64 k2, .int .i64 (n + a)] 151 (0, 0)) = X := ⟨_, rfl⟩
        obtain ⟨qx, hqx⟩ : ∃ X, v1.heap.size = X := ⟨_, rfl⟩
        rw [hv] at hFx hOwnX ⊢
        rw [hqx] at hOwnX ⊢
        replace hD := hD.fr0 hFx
        replace hHeld := hHeld.trans (hFx.mono (by simp))
        replace hownA := rown_frS hownA hFx (by simp)
        refine hK.out _ _ ?_ (fun hHeld1 => ?_)
        · (try dsimp only); exact hHeld
        clear hK K hHeld1
        clear hFx hv hqx
        try simp only [Act.put, List.setIfInBounds_toArray, List.set_cons_zero, List.set_cons_succ]
        refine wpAnyH_ready (rs := [16]) (by kernel_rfl) (by simp) ?_
        refine AllReadyH.cons (o := _) rfl (fun K hK => ?_) AllReadyH.nil
        rw [if_pos (by rfl)]
        (try simp only [List.getElem_toArray, List.getElem_cons_succ, List.getElem_cons_zero])
        refine wp_app _ 54 rfl (.tmp 43) (.tmp 53) 132 rfl 0 151 i0 (.agg #[.int .i64 0, .int .i64 0, .int .i64 0]) 3 24 Tryz.underlying132 hi0 hz0 hz1 hz2 rfl (by decide) _ D'.length _ (by rfl) hownA _ _ _ _ _ (by rfl) (Reads.of_own hOwnX) (by simp [Value.oneCell']) ?_ ?_ (Nat.zero_le _) ?_
        · have := HL.out; unfold maxLen; omega
        · have := HL.out; omega
        intro vb v3 hownB hgrB hrowB
        have hFg := Fr.of_row hgrB
        have hst2 := hFg.blk hD.st (by simpa using hgA)
        have hHeld2 : Fr [g] w2 v3 := hHeld.grown hgrB (fun k hk => hfa k hk)
        have hfr : ∀ k, vb.ownBlock = some k → w2.heap.size ≤ k := fun k hk => by
          rcases hrowB with h | h
          · exact hfa k (h ▸ hk)
          · rw [h] at hk; cases hk; exact hHeld.size
        obtain ⟨A2, c2, rfl⟩ := rown_slice hownB
        clear hFg hgrB hrowB hownA hgA hfa hOwnX
        refine hK.out _ _ ?_ (fun hHeld3 => ?_)
        · (try dsimp only); exact hHeld2
        clear hK K hHeld hD
        have hHeld := hHeld2
        clear hHeld2 hHeld3
        try simp only [Act.put, List.setIfInBounds_toArray, List.set_cons_zero, List.set_cons_succ]
        refine take_yes 17 55 rfl rfl (by kernel_rfl) (by kernel_rfl) (by kernel_rfl) (fun _ _ _ h => h) (by rfl) (by assumption) (v := ?_) ?_ ?_
        rotate_left
        · intro w hSw; (try dsimp only at hSw); go_simp; (try with_reducible rfl)
        try simp only [Act.put, List.setIfInBounds_toArray, List.set_cons_zero, List.set_cons_succ]
        refine take_yes 18 56 rfl rfl (by kernel_rfl) (by kernel_rfl) (by kernel_rfl) (fun _ _ _ h => h) (by rfl) (by assumption) (v := ?_) ?_ ?_
        rotate_left
        · intro w hSw; (try dsimp only at hSw); go_simp; (try with_reducible rfl)
        try simp only [Act.put, List.setIfInBounds_toArray, List.set_cons_zero, List.set_cons_succ]
        have f2 := hst2.fz 1
        have c2y : v3.cell? ⟨g, 1, none⟩ = some (.slice A D'.length cap) := hst2.c 1 _ rfl
        refine wpAnyH_ready (rs := [19]) (by kernel_rfl) (by simp) ?_
        refine AllReadyH.cons (o := _) rfl (fun K hK => ?_) AllReadyH.nil
        go_simp
        (try go_wp2_with fail)
        have hSt : Blk (v3.setCell ⟨g, 1, none⟩ (.slice A2 (D'.length + 1) c2)) g #[.int .i64 n, .slice A2 (D'.length + 1) c2] 134 := by
          have := hst2.set 1 (.slice A2 (D'.length + 1) c2)
          simpa using this
        have hFs : Fr [g] v3 (v3.setCell ⟨g, 1, none⟩ (.slice A2 (D'.length + 1) c2)) := (Fr.refl [g] v3).setCell (p := ⟨g, 1, none⟩) (by simp) (.slice A2 (D'.length + 1) c2)
        have hFZ := hHeld.trans hFs
        have hgB : ∀ k, (Value.slice A2 (D'.length + 1) c2).ownBlock = some k → k ≠ g := fun k hk e => by
          obtain ⟨cur, hc⟩ := rown_blk hownB k hk
          subst e
          exact hc.neT hst2 (by decide) rfl
        have HZ := Lib.hid (HEND.out _ _ _ hSt (rown_frS hownB hFs (fun k hk => by simpa using hgB k hk)) hfr hFZ)
        refine hK.out _ _ ?_ (fun hHeld1 => ?_)
        · (try dsimp only); exact hFZ
        clear hK K
        try simp only [Act.put, List.setIfInBounds_toArray, List.set_cons_zero, List.set_cons_succ]
        refine wpAnyH_done (by kernel_rfl) ?_ _
        clear hst2 hownB hSt hFs hFZ hHeld hHeld1 hgB f2 c2y hfr
        go_wp2_with fail
        go_ret
        exact ⟨rfl, HZ.out⟩
      refine AllReadyH.cons (o := _) rfl (fun K hK => ?_) AllReadyH.nil
      have c2 : v0.cell? ⟨g, 0, none⟩ = some (.int .i64 n) := hD.st.c 0 _ rfl
      go_simp
      (try go_wp2_with fail)
      refine hK.out _ _ ?_ (fun hHeld1 => ?_)
      · (try dsimp only); exact hHeld
      clear hK K hHeld1
      clear c2
      try simp only [Act.put, List.setIfInBounds_toArray, List.set_cons_zero, List.set_cons_succ]
      refine take_yes 13 51 rfl rfl (by kernel_rfl) (by kernel_rfl) (by kernel_rfl) (fun _ _ _ h => h) (by rfl) (by assumption) (v := ?_) ?_ ?_
      rotate_left
      · intro w hSw; (try dsimp only at hSw); go_simp; (try with_reducible rfl)
      try simp only [Act.put, List.setIfInBounds_toArray, List.set_cons_zero, List.set_cons_succ]
      refine take_yes 14 52 rfl rfl (by kernel_rfl) (by kernel_rfl) (by kernel_rfl) (fun _ _ _ h => h) (by rfl) (by assumption) (v := ?_) ?_ ?_
      rotate_left
      · intro w hSw; (try dsimp only at hSw); go_simp; (try with_reducible rfl)
      try simp only [Act.put, List.setIfInBounds_toArray, List.set_cons_zero, List.set_cons_succ]
      refine wpAnyH_ready (rs := [5, 15]) (by kernel_rfl) (by simp) ?_
      refine AllReadyH.cons (o := _) rfl (fun K hK => ?_) ?_
      · rw [if_pos (by rfl)]
        (try simp only [List.getElem_toArray, List.getElem_cons_succ, List.getElem_cons_zero])
        refine wp_app _ 43 rfl (.const (.slice none 0 0)) (.tmp 42) 132 rfl 0 151 i0 (.agg #[.int .i64 0, .int .i64 0, .int .i64 0]) 3 24 Tryz.underlying132 hi0 hz0 hz1 hz2 rfl (by decide) _ 0 _ (by rfl) (World.ownsRow_nil _ 0 _ _) _ _ _ _ _ (by rfl) (Reads.of_own hD.row) (rowF_one' tmF_one D') ?_ ?_ (Nat.zero_le _) ?_
        · have := HL.out; unfold maxLen; omega
        · have := HL.out; omega
        intro va v1 hownA hgrA hrowA
        rw [Nat.zero_add, List.nil_append] at hownA
        have hFg := Fr.of_row hgrA
        have hD2 : DCk v1 g n (.slice A D'.length cap) D' := hD.frS hFg (by simp [Value.ownBlock]) (fun k hk => by simp [Value.ownBlock])
        have hHeld2 : Fr [g] w2 v1 := hHeld.grown hgrA (fun k hk => by cases hk)
        have hfa : ∀ k, va.ownBlock = some k → w2.heap.size ≤ k := fun k hk => by
          rcases hrowA with h | h
          · rw [h] at hk; cases hk
          · rw [h] at hk; cases hk; exact hHeld.size
        have hgA : va.ownBlock ≠ some g := fun e => by
          have h1 := hfa g e
          have h2 := HGL.out
          omega
        clear hFg hgrA hrowA
        refine hK.out _ _ ?_ (fun hHeld3 => ?_)
        · (try dsimp only); exact hHeld2
        clear hK K hHeld hD
        have hHeld := hHeld2
        have hD := hD2
        clear hHeld2 hHeld3 hD2
        try simp only [Act.put, List.setIfInBounds_toArray, List.set_cons_zero, List.set_cons_succ]
        refine wpAnyH_ready (rs := [15]) (by kernel_rfl) (by simp) ?_
        refine AllReadyH.cons (o := _) rfl (fun K hK => ?_) AllReadyH.nil
        go_simp
        (try go_wp2_with fail)
        have hFx : Fr [] v1 (v1.alloc (.cells #[.int .i64 k1, .int .i64 k2, .int .i64 (n + a)] 151 (0, 0))) := (Fr.refl _ _).alloc _
        have hOwnX := World.ownsRow_lit (base := 0) (e := 151) (size := 3) v1 #[.int .i64 k1, .int .i64 k2, .int .i64 (n + a)] 1 (Nat.zero_le _) (by unfold maxLen; omega) rfl
        obtain ⟨v2, hv⟩ : ∃ X, v1.alloc (.cells #[.int .i64 k1, .int .i64 k2, .int .i64 (n + a)] 151 (0, 0)) = X := ⟨_, rfl⟩
        obtain ⟨qx, hqx⟩ : ∃ X, v1.heap.size = X := ⟨_, rfl⟩
        rw [hv] at hFx hOwnX ⊢
        rw [hqx] at hOwnX ⊢
        replace hD := hD.fr0 hFx
        replace hHeld := hHeld.trans (hFx.mono (by simp))
        replace hownA := rown_frS hownA hFx (by simp)
        refine hK.out _ _ ?_ (fun hHeld1 => ?_)
        · (try dsimp only); exact hHeld
        clear hK K hHeld1
        clear hFx hv hqx
        try simp only [Act.put, List.setIfInBounds_toArray, List.set_cons_zero, List.set_cons_succ]
        refine wpAnyH_ready (rs := [16]) (by kernel_rfl) (by simp) ?_
        refine AllReadyH.cons (o := _) rfl (fun K hK => ?_) AllReadyH.nil
        rw [if_pos (by rfl)]
        (try simp only [List.getElem_toArray, List.getElem_cons_succ, List.getElem_cons_zero])
        refine wp_app _ 54 rfl (.tmp 43) (.tmp 53) 132 rfl 0 151 i0 (.agg #[.int .i64 0, .int .i64 0, .int .i64 0]) 3 24 Tryz.underlying132 hi0 hz0 hz1 hz2 rfl (by decide) _ D'.length _ (by rfl) hownA _ _ _ _ _ (by rfl) (Reads.of_own hOwnX) (by simp [Value.oneCell']) ?_ ?_ (Nat.zero_le _) ?_
        · have := HL.out; unfold maxLen; omega
        · have := HL.out; omega
        intro vb v3 hownB hgrB hrowB
        have hFg := Fr.of_row hgrB
        have hst2 := hFg.blk hD.st (by simpa using hgA)
        have hHeld2 : Fr [g] w2 v3 := hHeld.grown hgrB (fun k hk => hfa k hk)
        have hfr : ∀ k, vb.ownBlock = some k → w2.heap.size ≤ k := fun k hk => by
          rcases hrowB with h | h
          · exact hfa k (h ▸ hk)
          · rw [h] at hk; cases hk; exact hHeld.size
        obtain ⟨A2, c2, rfl⟩ := rown_slice hownB
        clear hFg hgrB hrowB hownA hgA hfa hOwnX
        refine hK.out _ _ ?_ (fun hHeld3 => ?_)
        · (try dsimp only); exact hHeld2
        clear hK K hHeld hD
        have hHeld := hHeld2
        clear hHeld2 hHeld3
        try simp only [Act.put, List.setIfInBounds_toArray, List.set_cons_zero, List.set_cons_succ]
        refine take_yes 17 55 rfl rfl (by kernel_rfl) (by kernel_rfl) (by kernel_rfl) (fun _ _ _ h => h) (by rfl) (by assumption) (v := ?_) ?_ ?_
        rotate_left
        · intro w hSw; (try dsimp only at hSw); go_simp; (try with_reducible rfl)
        try simp only [Act.put, List.setIfInBounds_toArray, List.set_cons_zero, List.set_cons_succ]
        refine take_yes 18 56 rfl rfl (by kernel_rfl) (by kernel_rfl) (by kernel_rfl) (fun _ _ _ h => h) (by rfl) (by assumption) (v := ?_) ?_ ?_
        rotate_left
        · intro w hSw; (try dsimp only at hSw); go_simp; (try with_reducible rfl)
        try simp only [Act.put, List.setIfInBounds_toArray, List.set_cons_zero, List.set_cons_succ]
        have f2 := hst2.fz 1
        have c2y : v3.cell? ⟨g, 1, none⟩ = some (.slice A D'.length cap) := hst2.c 1 _ rfl
        refine wpAnyH_ready (rs := [19]) (by kernel_rfl) (by simp) ?_
        refine AllReadyH.cons (o := _) rfl (fun K hK => ?_) AllReadyH.nil
        go_simp
        (try go_wp2_with fail)
        have hSt : Blk (v3.setCell ⟨g, 1, none⟩ (.slice A2 (D'.length + 1) c2)) g #[.int .i64 n, .slice A2 (D'.length + 1) c2] 134 := by
          have := hst2.set 1 (.slice A2 (D'.length + 1) c2)
          simpa using this
        have hFs : Fr [g] v3 (v3.setCell ⟨g, 1, none⟩ (.slice A2 (D'.length + 1) c2)) := (Fr.refl [g] v3).setCell (p := ⟨g, 1, none⟩) (by simp) (.slice A2 (D'.length + 1) c2)
        have hFZ := hHeld.trans hFs
        have hgB : ∀ k, (Value.slice A2 (D'.length + 1) c2).ownBlock = some k → k ≠ g := fun k hk e => by
          obtain ⟨cur, hc⟩ := rown_blk hownB k hk
          subst e
          exact hc.neT hst2 (by decide) rfl
        have HZ := Lib.hid (HEND.out _ _ _ hSt (rown_frS hownB hFs (fun k hk => by simpa using hgB k hk)) hfr hFZ)
        refine hK.out _ _ ?_ (fun hHeld1 => ?_)
        · (try dsimp only); exact hFZ
        clear hK K
        try simp only [Act.put, List.setIfInBounds_toArray, List.set_cons_zero, List.set_cons_succ]
        refine wpAnyH_done (by kernel_rfl) ?_ _
        clear hst2 hownB hSt hFs hFZ hHeld hHeld1 hgB f2 c2y hfr
        go_wp2_with fail
        go_ret
        exact ⟨rfl, HZ.out⟩
      refine AllReadyH.cons (o := _) rfl (fun K hK => ?_) AllReadyH.nil
      go_simp
      (try go_wp2_with fail)
      have hFx : Fr [] v0 (v0.alloc (.cells #[.int .i64 k1, .int .i64 k2, .int .i64 (n + a)] 151 (0, 0))) := (Fr.refl _ _).alloc _
      have hOwnX := World.ownsRow_lit (base := 0) (e := 151) (size := 3) v0 #[.int .i64 k1, .int .i64 k2, .int .i64 (n + a)] 1 (Nat.zero_le _) (by unfold maxLen; omega) rfl
      obtain ⟨v1, hv⟩ : ∃ X, v0.alloc (.cells #[.int .i64 k1, .int .i64 k2, .int .i64 (n + a)] 151 (0, 0)) = X := ⟨_, rfl⟩
      obtain ⟨qx, hqx⟩ : ∃ X, v0.heap.size = X := ⟨_, rfl⟩
      rw [hv] at hFx hOwnX ⊢
      rw [hqx] at hOwnX ⊢
      replace hD := hD.fr0 hFx
      replace hHeld := hHeld.trans (hFx.mono (by simp))
      refine hK.out _ _ ?_ (fun hHeld1 => ?_)
      · (try dsimp only); exact hHeld
      clear hK K hHeld1
      clear hFx hv hqx
      try simp only [Act.put, List.setIfInBounds_toArray, List.set_cons_zero, List.set_cons_succ]
      refine wpAnyH_ready (rs := [5]) (by kernel_rfl) (by simp) ?_
      refine AllReadyH.cons (o := _) rfl (fun K hK => ?_) AllReadyH.nil
      rw [if_pos (by rfl)]
      (try simp only [List.getElem_toArray, List.getElem_cons_succ, List.getElem_cons_zero])
      refine wp_app _ 43 rfl (.const (.slice none 0 0)) (.tmp 42) 132 rfl 0 151 i0 (.agg #[.int .i64 0, .int .i64 0, .int .i64 0]) 3 24 Tryz.underlying132 hi0 hz0 hz1 hz2 rfl (by decide) _ 0 _ (by rfl) (World.ownsRow_nil _ 0 _ _) _ _ _ _ _ (by rfl) (Reads.of_own hD.row) (rowF_one' tmF_one D') ?_ ?_ (Nat.zero_le _) ?_
      · have := HL.out; unfold maxLen; omega
      · have := HL.out; omega
      intro va v2 hownA hgrA hrowA
      rw [Nat.zero_add, List.nil_append] at hownA
      have hFg := Fr.of_row hgrA
      have hD2 : DCk v2 g n (.slice A D'.length cap) D' := hD.frS hFg (by simp [Value.ownBlock]) (fun k hk => by simp [Value.ownBlock])
      have hHeld2 : Fr [g] w2 v2 := hHeld.grown hgrA (fun k hk => by cases hk)
      have hfa : ∀ k, va.ownBlock = some k → w2.heap.size ≤ k := fun k hk => by
        rcases hrowA with h | h
        · rw [h] at hk; cases hk
        · rw [h] at hk; cases hk; exact hHeld.size
      have hgA : va.ownBlock ≠ some g := fun e => by
        have h1 := hfa g e
        have h2 := HGL.out
        omega
      replace hOwnX := rown_frS hOwnX hFg (by simp [Value.ownBlock])
      clear hFg hgrA hrowA
      refine hK.out _ _ ?_ (fun hHeld3 => ?_)
      · (try dsimp only); exact hHeld2
      clear hK K hHeld hD
      have hHeld := hHeld2
      have hD := hD2
      clear hHeld2 hHeld3 hD2
      try simp only [Act.put, List.setIfInBounds_toArray, List.set_cons_zero, List.set_cons_succ]
      refine wpAnyH_ready (rs := [16]) (by kernel_rfl) (by simp) ?_
      refine AllReadyH.cons (o := _) rfl (fun K hK => ?_) AllReadyH.nil
      rw [if_pos (by rfl)]
      (try simp only [List.getElem_toArray, List.getElem_cons_succ, List.getElem_cons_zero])
      refine wp_app _ 54 rfl (.tmp 43) (.tmp 53) 132 rfl 0 151 i0 (.agg #[.int .i64 0, .int .i64 0, .int .i64 0]) 3 24 Tryz.underlying132 hi0 hz0 hz1 hz2 rfl (by decide) _ D'.length _ (by rfl) hownA _ _ _ _ _ (by rfl) (Reads.of_own hOwnX) (by simp [Value.oneCell']) ?_ ?_ (Nat.zero_le _) ?_
      · have := HL.out; unfold maxLen; omega
      · have := HL.out; omega
      intro vb v3 hownB hgrB hrowB
      have hFg := Fr.of_row hgrB
      have hst2 := hFg.blk hD.st (by simpa using hgA)
      have hHeld2 : Fr [g] w2 v3 := hHeld.grown hgrB (fun k hk => hfa k hk)
      have hfr : ∀ k, vb.ownBlock = some k → w2.heap.size ≤ k := fun k hk => by
        rcases hrowB with h | h
        · exact hfa k (h ▸ hk)
        · rw [h] at hk; cases hk; exact hHeld.size
      obtain ⟨A2, c2, rfl⟩ := rown_slice hownB
      clear hFg hgrB hrowB hownA hgA hfa hOwnX
      refine hK.out _ _ ?_ (fun hHeld3 => ?_)
      · (try dsimp only); exact hHeld2
      clear hK K hHeld hD
      have hHeld := hHeld2
      clear hHeld2 hHeld3
      try simp only [Act.put, List.setIfInBounds_toArray, List.set_cons_zero, List.set_cons_succ]
      refine take_yes 17 55 rfl rfl (by kernel_rfl) (by kernel_rfl) (by kernel_rfl) (fun _ _ _ h => h) (by rfl) (by assumption) (v := ?_) ?_ ?_
      rotate_left
      · intro w hSw; (try dsimp only at hSw); go_simp; (try with_reducible rfl)
      try simp only [Act.put, List.setIfInBounds_toArray, List.set_cons_zero, List.set_cons_succ]
      refine take_yes 18 56 rfl rfl (by kernel_rfl) (by kernel_rfl) (by kernel_rfl) (fun _ _ _ h => h) (by rfl) (by assumption) (v := ?_) ?_ ?_
      rotate_left
      · intro w hSw; (try dsimp only at hSw); go_simp; (try with_reducible rfl)
      try simp only [Act.put, List.setIfInBounds_toArray, List.set_cons_zero, List.set_cons_succ]
      have f2 := hst2.fz 1
      have c2y : v3.cell? ⟨g, 1, none⟩ = some (.slice A D'.length cap) := hst2.c 1 _ rfl
      refine wpAnyH_ready (rs := [19]) (by kernel_rfl) (by simp) ?_
      refine AllReadyH.cons (o := _) rfl (fun K hK => ?_) AllReadyH.nil
      go_simp
      (try go_wp2_with fail)
      have hSt : Blk (v3.setCell ⟨g, 1, none⟩ (.slice A2 (D'.length + 1) c2)) g #[.int .i64 n, .slice A2 (D'.length + 1) c2] 134 := by
        have := hst2.set 1 (.slice A2 (D'.length + 1) c2)
        simpa using this
      have hFs : Fr [g] v3 (v3.setCell ⟨g, 1, none⟩ (.slice A2 (D'.length + 1) c2)) := (Fr.refl [g] v3).setCell (p := ⟨g, 1, none⟩) (by simp) (.slice A2 (D'.length + 1) c2)
      have hFZ := hHeld.trans hFs
      have hgB : ∀ k, (Value.slice A2 (D'.length + 1) c2).ownBlock = some k → k ≠ g := fun k hk e => by
        obtain ⟨cur, hc⟩ := rown_blk hownB k hk
        subst e
        exact hc.neT hst2 (by decide) rfl
      have HZ := Lib.hid (HEND.out _ _ _ hSt (rown_frS hownB hFs (fun k hk => by simpa using hgB k hk)) hfr hFZ)
      refine hK.out _ _ ?_ (fun hHeld1 => ?_)
      · (try dsimp only); exact hFZ
      clear hK K
      try simp only [Act.put, List.setIfInBounds_toArray, List.set_cons_zero, List.set_cons_succ]
      refine wpAnyH_done (by kernel_rfl) ?_ _
      clear hst2 hownB hSt hFs hFZ hHeld hHeld1 hgB f2 c2y hfr
      go_wp2_with fail
      go_ret
      exact ⟨rfl, HZ.out⟩
    refine AllReadyH.cons (o := _) rfl (fun K hK => ?_) AllReadyH.nil
    have c2 : v0.cell? ⟨g, 0, none⟩ = some (.int .i64 n) := hD.st.c 0 _ rfl
    go_simp
    (try go_wp2_with fail)
    refine hK.out _ _ ?_ (fun hHeld1 => ?_)
    · (try dsimp only); exact hHeld
    clear hK K hHeld1
    clear c2
    try simp only [Act.put, List.setIfInBounds_toArray, List.set_cons_zero, List.set_cons_succ]
    refine take_yes 13 51 rfl rfl (by kernel_rfl) (by kernel_rfl) (by kernel_rfl) (fun _ _ _ h => h) (by rfl) (by assumption) (v := ?_) ?_ ?_
    rotate_left
    · intro w hSw; (try dsimp only at hSw); go_simp; (try with_reducible rfl)
    try simp only [Act.put, List.setIfInBounds_toArray, List.set_cons_zero, List.set_cons_succ]
    refine take_yes 14 52 rfl rfl (by kernel_rfl) (by kernel_rfl) (by kernel_rfl) (fun _ _ _ h => h) (by rfl) (by assumption) (v := ?_) ?_ ?_
    rotate_left
    · intro w hSw; (try dsimp only at hSw); go_simp; (try with_reducible rfl)
    try simp only [Act.put, List.setIfInBounds_toArray, List.set_cons_zero, List.set_cons_succ]
    refine wpAnyH_ready (rs := [4, 15]) (by kernel_rfl) (by simp) ?_
    refine AllReadyH.cons (o := _) rfl (fun K hK => ?_) ?_
    · have c2 : v0.cell? ⟨g, 1, none⟩ = some (.slice A D'.length cap) := hD.st.c 1 _ rfl
      go_simp
      (try go_wp2_with fail)
      refine hK.out _ _ ?_ (fun hHeld1 => ?_)
      · (try dsimp only); exact hHeld
      clear hK K hHeld1
      clear c2
      try simp only [Act.put, List.setIfInBounds_toArray, List.set_cons_zero, List.set_cons_succ]
      refine wpAnyH_ready (rs := [5, 15]) (by kernel_rfl) (by simp) ?_
      refine AllReadyH.cons (o := _) rfl (fun K hK => ?_) ?_
      · rw [if_pos (by rfl)]
        (try simp only [List.getElem_toArray, List.getElem_cons_succ, List.getElem_cons_zero])
        refine wp_app _ 43 rfl (.const (.slice none 0 0)) (.tmp 42) 132 rfl 0 151 i0 (.agg #[.int .i64 0, .int .i64 0, .int .i64 0]) 3 24 Tryz.underlying132 hi0 hz0 hz1 hz2 rfl (by decide) _ 0 _ (by rfl) (World.ownsRow_nil _ 0 _ _) _ _ _ _ _ (by rfl) (Reads.of_own hD.row) (rowF_one' tmF_one D') ?_ ?_ (Nat.zero_le _) ?_
        · have := HL.out; unfold maxLen; omega
        · have := HL.out; omega
        intro va v1 hownA hgrA hrowA
        rw [Nat.zero_add, List.nil_append] at hownA
        have hFg := Fr.of_row hgrA
        have hD2 : DCk v1 g n (.slice A D'.length cap) D' := hD.frS hFg (by simp [Value.ownBlock]) (fun k hk => by simp [Value.ownBlock])
        have hHeld2 : Fr [g] w2 v1 := hHeld.grown hgrA (fun k hk => by cases hk)
        have hfa : ∀ k, va.ownBlock = some k → w2.heap.size ≤ k := fun k hk => by
          rcases hrowA with h | h
          · rw [h] at hk; cases hk
          · rw [h] at hk; cases hk; exact hHeld.size
        have hgA : va.ownBlock ≠ some g := fun e => by
          have h1 := hfa g e
          have h2 := HGL.out
          omega
        clear hFg hgrA hrowA
        refine hK.out _ _ ?_ (fun hHeld3 => ?_)
        · (try dsimp only); exact hHeld2
        clear hK K hHeld hD
        have hHeld := hHeld2
        have hD := hD2
        clear hHeld2 hHeld3 hD2
        try simp only [Act.put, List.setIfInBounds_toArray, List.set_cons_zero, List.set_cons_succ]
        refine wpAnyH_ready (rs := [15]) (by kernel_rfl) (by simp) ?_
        refine AllReadyH.cons (o := _) rfl (fun K hK => ?_) AllReadyH.nil
        go_simp
        (try go_wp2_with fail)
        have hFx : Fr [] v1 (v1.alloc (.cells #[.int .i64 k1, .int .i64 k2, .int .i64 (n + a)] 151 (0, 0))) := (Fr.refl _ _).alloc _
        have hOwnX := World.ownsRow_lit (base := 0) (e := 151) (size := 3) v1 #[.int .i64 k1, .int .i64 k2, .int .i64 (n + a)] 1 (Nat.zero_le _) (by unfold maxLen; omega) rfl
        obtain ⟨v2, hv⟩ : ∃ X, v1.alloc (.cells #[.int .i64 k1, .int .i64 k2, .int .i64 (n + a)] 151 (0, 0)) = X := ⟨_, rfl⟩
        obtain ⟨qx, hqx⟩ : ∃ X, v1.heap.size = X := ⟨_, rfl⟩
        rw [hv] at hFx hOwnX ⊢
        rw [hqx] at hOwnX ⊢
        replace hD := hD.fr0 hFx
        replace hHeld := hHeld.trans (hFx.mono (by simp))
        replace hownA := rown_frS hownA hFx (by simp)
        refine hK.out _ _ ?_ (fun hHeld1 => ?_)
        · (try dsimp only); exact hHeld
        clear hK K hHeld1
        clear hFx hv hqx
        try simp only [Act.put, List.setIfInBounds_toArray, List.set_cons_zero, List.set_cons_succ]
        refine wpAnyH_ready (rs := [16]) (by kernel_rfl) (by simp) ?_
        refine AllReadyH.cons (o := _) rfl (fun K hK => ?_) AllReadyH.nil
        rw [if_pos (by rfl)]
        (try simp only [List.getElem_toArray, List.getElem_cons_succ, List.getElem_cons_zero])
        refine wp_app _ 54 rfl (.tmp 43) (.tmp 53) 132 rfl 0 151 i0 (.agg #[.int .i64 0, .int .i64 0, .int .i64 0]) 3 24 Tryz.underlying132 hi0 hz0 hz1 hz2 rfl (by decide) _ D'.length _ (by rfl) hownA _ _ _ _ _ (by rfl) (Reads.of_own hOwnX) (by simp [Value.oneCell']) ?_ ?_ (Nat.zero_le _) ?_
        · have := HL.out; unfold maxLen; omega
        · have := HL.out; omega
        intro vb v3 hownB hgrB hrowB
        have hFg := Fr.of_row hgrB
        have hst2 := hFg.blk hD.st (by simpa using hgA)
        have hHeld2 : Fr [g] w2 v3 := hHeld.grown hgrB (fun k hk => hfa k hk)
        have hfr : ∀ k, vb.ownBlock = some k → w2.heap.size ≤ k := fun k hk => by
          rcases hrowB with h | h
          · exact hfa k (h ▸ hk)
          · rw [h] at hk; cases hk; exact hHeld.size
        obtain ⟨A2, c2, rfl⟩ := rown_slice hownB
        clear hFg hgrB hrowB hownA hgA hfa hOwnX
        refine hK.out _ _ ?_ (fun hHeld3 => ?_)
        · (try dsimp only); exact hHeld2
        clear hK K hHeld hD
        have hHeld := hHeld2
        clear hHeld2 hHeld3
        try simp only [Act.put, List.setIfInBounds_toArray, List.set_cons_zero, List.set_cons_succ]
        refine take_yes 17 55 rfl rfl (by kernel_rfl) (by kernel_rfl) (by kernel_rfl) (fun _ _ _ h => h) (by rfl) (by assumption) (v := ?_) ?_ ?_
        rotate_left
        · intro w hSw; (try dsimp only at hSw); go_simp; (try with_reducible rfl)
        try simp only [Act.put, List.setIfInBounds_toArray, List.set_cons_zero, List.set_cons_succ]
        refine take_yes 18 56 rfl rfl (by kernel_rfl) (by kernel_rfl) (by kernel_rfl) (fun _ _ _ h => h) (by rfl) (by assumption) (v := ?_) ?_ ?_
        rotate_left
        · intro w hSw; (try dsimp only at hSw); go_simp; (try with_reducible rfl)
        try simp only [Act.put, List.setIfInBounds_toArray, List.set_cons_zero, List.set_cons_succ]
        have f2 := hst2.fz 1
        have c2y : v3.cell? ⟨g, 1, none⟩ = some (.slice A D'.length cap) := hst2.c 1 _ rfl
        refine wpAnyH_ready (rs := [19]) (by kernel_rfl) (by simp) ?_
        refine AllReadyH.cons (o := _) rfl (fun K hK => ?_) AllReadyH.nil
        go_simp
        (try go_wp2_with fail)
        have hSt : Blk (v3.setCell ⟨g, 1, none⟩ (.slice A2 (D'.length + 1) c2)) g #[.int .i64 n, .slice A2 (D'.length + 1) c2] 134 := by
          have := hst2.set 1 (.slice A2 (D'.length + 1) c2)
          simpa using this
        have hFs : Fr [g] v3 (v3.setCell ⟨g, 1, none⟩ (.slice A2 (D'.length + 1) c2)) := (Fr.refl [g] v3).setCell (p := ⟨g, 1, none⟩) (by simp) (.slice A2 (D'.length + 1) c2)
        have hFZ := hHeld.trans hFs
        have hgB : ∀ k, (Value.slice A2 (D'.length + 1) c2).ownBlock = some k → k ≠ g := fun k hk e => by
          obtain ⟨cur, hc⟩ := rown_blk hownB k hk
          subst e
          exact hc.neT hst2 (by decide) rfl
        have HZ := Lib.hid (HEND.out _ _ _ hSt (rown_frS hownB hFs (fun k hk => by simpa using hgB k hk)) hfr hFZ)
        refine hK.out _ _ ?_ (fun hHeld1 => ?_)
        · (try dsimp only); exact hFZ
        clear hK K
        try simp only [Act.put, List.setIfInBounds_toArray, List.set_cons_zero, List.set_cons_succ]
        refine wpAnyH_done (by kernel_rfl) ?_ _
        clear hst2 hownB hSt hFs hFZ hHeld hHeld1 hgB f2 c2y hfr
        go_wp2_with fail
        go_ret
        exact ⟨rfl, HZ.out⟩
      refine AllReadyH.cons (o := _) rfl (fun K hK => ?_) AllReadyH.nil
      go_simp
      (try go_wp2_with fail)
      have hFx : Fr [] v0 (v0.alloc (.cells #[.int .i64 k1, .int .i64 k2, .int .i64 (n + a)] 151 (0, 0))) := (Fr.refl _ _).alloc _
      have hOwnX := World.ownsRow_lit (base := 0) (e := 151) (size := 3) v0 #[.int .i64 k1, .int .i64 k2, .int .i64 (n + a)] 1 (Nat.zero_le _) (by unfold maxLen; omega) rfl
      obtain ⟨v1, hv⟩ : ∃ X, v0.alloc (.cells #[.int .i64 k1, .int .i64 k2, .int .i64 (n + a)] 151 (0, 0)) = X := ⟨_, rfl⟩
      obtain ⟨qx, hqx⟩ : ∃ X, v0.heap.size = X := ⟨_, rfl⟩
      rw [hv] at hFx hOwnX ⊢
      rw [hqx] at hOwnX ⊢
      replace hD := hD.fr0 hFx
      replace hHeld := hHeld.trans (hFx.mono (by simp))
      refine hK.out _ _ ?_ (fun hHeld1 => ?_)
      · (try dsimp only); exact hHeld
      clear hK K hHeld1
      clear hFx hv hqx
      try simp only [Act.put, List.setIfInBounds_toArray, List.set_cons_zero, List.set_cons_succ]
      refine wpAnyH_ready (rs := [5]) (by kernel_rfl) (by simp) ?_
      refine AllReadyH.cons (o := _) rfl (fun K hK => ?_) AllReadyH.nil
      rw [if_pos (by rfl)]
      (try simp only [List.getElem_toArray, List.getElem_cons_succ, List.getElem_cons_zero])
      refine wp_app _ 43 rfl (.const (.slice none 0 0)) (.tmp 42) 132 rfl 0 151 i0 (.agg #[.int .i64 0, .int .i64 0, .int .i64 0]) 3 24 Tryz.underlying132 hi0 hz0 hz1 hz2 rfl (by decide) _ 0 _ (by rfl) (World.ownsRow_nil _ 0 _ _) _ _ _ _ _ (by rfl) (Reads.of_own hD.row) (rowF_one' tmF_one D') ?_ ?_ (Nat.zero_le _) ?_
      · have := HL.out; unfold maxLen; omega
      · have := HL.out; omega
      intro va v2 hownA hgrA hrowA
      rw [Nat.zero_add, List.nil_append] at hownA
      have hFg := Fr.of_row hgrA
      have hD2 : DCk v2 g n (.slice A D'.length cap) D' := hD.frS hFg (by simp [Value.ownBlock]) (fun k hk => by simp [Value.ownBlock])
      have hHeld2 : Fr [g] w2 v2 := hHeld.grown hgrA (fun k hk => by cases hk)
      have hfa : ∀ k, va.ownBlock = some k → w2.heap.size ≤ k := fun k hk => by
        rcases hrowA with h | h
        · rw [h] at hk; cases hk
        · rw [h] at hk; cases hk; exact hHeld.size
      have hgA : va.ownBlock ≠ some g := fun e => by
        have h1 := hfa g e
        have h2 := HGL.out
        omega
      replace hOwnX := rown_frS hOwnX hFg (by simp [Value.ownBlock])
      clear hFg hgrA hrowA
      refine hK.out _ _ ?_ (fun hHeld3 => ?_)
      · (try dsimp only); exact hHeld2
      clear hK K hHeld hD
      have hHeld := hHeld2
      have hD := hD2
      clear hHeld2 hHeld3 hD2
      try simp only [Act.put, List.setIfInBounds_toArray, List.set_cons_zero, List.set_cons_succ]
      refine wpAnyH_ready (rs := [16]) (by kernel_rfl) (by simp) ?_
      refine AllReadyH.cons (o := _) rfl (fun K hK => ?_) AllReadyH.nil
      rw [if_pos (by rfl)]
      (try simp only [List.getElem_toArray, List.getElem_cons_succ, List.getElem_cons_zero])
      refine wp_app _ 54 rfl (.tmp 43) (.tmp 53) 132 rfl 0 151 i0 (.agg #[.int .i64 0, .int .i64 0, .int .i64 0]) 3 24 Tryz.underlying132 hi0 hz0 hz1 hz2 rfl (by decide) _ D'.length _ (by rfl) hownA _ _ _ _ _ (by rfl) (Reads.of_own hOwnX) (by simp [Value.oneCell']) ?_ ?_ (Nat.zero_le _) ?_
      · have := HL.out; unfold maxLen; omega
      · have := HL.out; omega
      intro vb v3 hownB hgrB hrowB
      have hFg := Fr.of_row hgrB
      have hst2 := hFg.blk hD.st (by simpa using hgA)
      have hHeld2 : Fr [g] w2 v3 := hHeld.grown hgrB (fun k hk => hfa k hk)
      have hfr : ∀ k, vb.ownBlock = some k → w2.heap.size ≤ k := fun k hk => by
        rcases hrowB with h | h
        · exact hfa k (h ▸ hk)
        · rw [h] at hk; cases hk; exact hHeld.size
      obtain ⟨A2, c2, rfl⟩ := rown_slice hownB
      clear hFg hgrB hrowB hownA hgA hfa hOwnX
      refine hK.out _ _ ?_ (fun hHeld3 => ?_)
      · (try dsimp only); exact hHeld2
      clear hK K hHeld hD
      have hHeld := hHeld2
      clear hHeld2 hHeld3
      try simp only [Act.put, List.setIfInBounds_toArray, List.set_cons_zero, List.set_cons_succ]
      refine take_yes 17 55 rfl rfl (by kernel_rfl) (by kernel_rfl) (by kernel_rfl) (fun _ _ _ h => h) (by rfl) (by assumption) (v := ?_) ?_ ?_
      rotate_left
      · intro w hSw; (try dsimp only at hSw); go_simp; (try with_reducible rfl)
      try simp only [Act.put, List.setIfInBounds_toArray, List.set_cons_zero, List.set_cons_succ]
      refine take_yes 18 56 rfl rfl (by kernel_rfl) (by kernel_rfl) (by kernel_rfl) (fun _ _ _ h => h) (by rfl) (by assumption) (v := ?_) ?_ ?_
      rotate_left
      · intro w hSw; (try dsimp only at hSw); go_simp; (try with_reducible rfl)
      try simp only [Act.put, List.setIfInBounds_toArray, List.set_cons_zero, List.set_cons_succ]
      have f2 := hst2.fz 1
      have c2y : v3.cell? ⟨g, 1, none⟩ = some (.slice A D'.length cap) := hst2.c 1 _ rfl
      refine wpAnyH_ready (rs := [19]) (by kernel_rfl) (by simp) ?_
      refine AllReadyH.cons (o := _) rfl (fun K hK => ?_) AllReadyH.nil
      go_simp
      (try go_wp2_with fail)
      have hSt : Blk (v3.setCell ⟨g, 1, none⟩ (.slice A2 (D'.length + 1) c2)) g #[.int .i64 n, .slice A2 (D'.length + 1) c2] 134 := by
        have := hst2.set 1 (.slice A2 (D'.length + 1) c2)
        simpa using this
      have hFs : Fr [g] v3 (v3.setCell ⟨g, 1, none⟩ (.slice A2 (D'.length + 1) c2)) := (Fr.refl [g] v3).setCell (p := ⟨g, 1, none⟩) (by simp) (.slice A2 (D'.length + 1) c2)
      have hFZ := hHeld.trans hFs
      have hgB : ∀ k, (Value.slice A2 (D'.length + 1) c2).ownBlock = some k → k ≠ g := fun k hk e => by
        obtain ⟨cur, hc⟩ := rown_blk hownB k hk
        subst e
        exact hc.neT hst2 (by decide) rfl
      have HZ := Lib.hid (HEND.out _ _ _ hSt (rown_frS hownB hFs (fun k hk => by simpa using hgB k hk)) hfr hFZ)
      refine hK.out _ _ ?_ (fun hHeld1 => ?_)
      · (try dsimp only); exact hFZ
      clear hK K
      try simp only [Act.put, List.setIfInBounds_toArray, List.set_cons_zero, List.set_cons_succ]
      refine wpAnyH_done (by kernel_rfl) ?_ _
      clear hst2 hownB hSt hFs hFZ hHeld hHeld1 hgB f2 c2y hfr
      go_wp2_with fail
      go_ret
      exact ⟨rfl, HZ.out⟩
    refine AllReadyH.cons (o := _) rfl (fun K hK => ?_) AllReadyH.nil
    go_simp
    (try go_wp2_with fail)
    have hFx : Fr [] v0 (v0.alloc (.cells #[.int .i64 k1, .int .i64 k2, .int .i64 (n + a)] 151 (0, 0))) := (Fr.refl _ _).alloc _
    have hOwnX := World.ownsRow_lit (base := 0) (e := 151) (size := 3) v0 #[.int .i64 k1, .int .i64 k2, .int .i64 (n + a)] 1 (Nat.zero_le _) (by unfold maxLen; omega) rfl
    obtain ⟨v1, hv⟩ : ∃ X, v0.alloc (.cells #[.int .i64 k1, .int .i64 k2, .int .i64 (n + a)] 151 (0, 0)) = X := ⟨_, rfl⟩
    obtain ⟨qx, hqx⟩ : ∃ X, v0.heap.size = X := ⟨_, rfl⟩
    rw [hv] at hFx hOwnX ⊢
    rw [hqx] at hOwnX ⊢
    replace hD := hD.fr0 hFx
    replace hHeld := hHeld.trans (hFx.mono (by simp))
    refine hK.out _ _ ?_ (fun hHeld1 => ?_)
    · (try dsimp only); exact hHeld
    clear hK K hHeld1
    clear hFx hv hqx
    try simp only [Act.put, List.setIfInBounds_toArray, List.set_cons_zero, List.set_cons_succ]
    refine wpAnyH_ready (rs := [4]) (by kernel_rfl) (by simp) ?_
    refine AllReadyH.cons (o := _) rfl (fun K hK => ?_) AllReadyH.nil
    have c2 : v1.cell? ⟨g, 1, none⟩ = some (.slice A D'.length cap) := hD.st.c 1 _ rfl
    go_simp
    (try go_wp2_with fail)
    refine hK.out _ _ ?_ (fun hHeld1 => ?_)
    · (try dsimp only); exact hHeld
    clear hK K hHeld1
    clear c2
    try simp only [Act.put, List.setIfInBounds_toArray, List.set_cons_zero, List.set_cons_succ]
    refine wpAnyH_ready (rs := [5]) (by kernel_rfl) (by simp) ?_
    refine AllReadyH.cons (o := _) rfl (fun K hK => ?_) AllReadyH.nil
    rw [if_pos (by rfl)]
    (try simp only [List.getElem_toArray, List.getElem_cons_succ, List.getElem_cons_zero])
    refine wp_app _ 43 rfl (.const (.slice none 0 0)) (.tmp 42) 132 rfl 0 151 i0 (.agg #[.int .i64 0, .int .i64 0, .int .i64 0]) 3 24 Tryz.underlying132 hi0 hz0 hz1 hz2 rfl (by decide) _ 0 _ (by rfl) (World.ownsRow_nil _ 0 _ _) _ _ _ _ _ (by rfl) (Reads.of_own hD.row) (rowF_one' tmF_one D') ?_ ?_ (Nat.zero_le _) ?_
    · have := HL.out; unfold maxLen; omega
    · have := HL.out; omega
    intro va v2 hownA hgrA hrowA
    rw [Nat.zero_add, List.nil_append] at hownA
    have hFg := Fr.of_row hgrA
    have hD2 : DCk v2 g n (.slice A D'.length cap) D' := hD.frS hFg (by simp [Value.ownBlock]) (fun k hk => by simp [Value.ownBlock])
    have hHeld2 : Fr [g] w2 v2 := hHeld.grown hgrA (fun k hk => by cases hk)
    have hfa : ∀ k, va.ownBlock = some k → w2.heap.size ≤ k := fun k hk => by
      rcases hrowA with h | h
      · rw [h] at hk; cases hk
      · rw [h] at hk; cases hk; exact hHeld.size
    have hgA : va.ownBlock ≠ some g := fun e => by
      have h1 := hfa g e
      have h2 := HGL.out
      omega
    replace hOwnX := rown_frS hOwnX hFg (by simp [Value.ownBlock])
    clear hFg hgrA hrowA
    refine hK.out _ _ ?_ (fun hHeld3 => ?_)
    · (try dsimp only); exact hHeld2
    clear hK K hHeld hD
    have hHeld := hHeld2
    have hD := hD2
    clear hHeld2 hHeld3 hD2
    try simp only [Act.put, List.setIfInBounds_toArray, List.set_cons_zero, List.set_cons_succ]
    refine wpAnyH_ready (rs := [16]) (by kernel_rfl) (by simp) ?_
    refine AllReadyH.cons (o := _) rfl (fun K hK => ?_) AllReadyH.nil
    rw [if_pos (by rfl)]
    (try simp only [List.getElem_toArray, List.getElem_cons_succ, List.getElem_cons_zero])
    refine wp_app _ 54 rfl (.tmp 43) (.tmp 53) 132 rfl 0 151 i0 (.agg #[.int .i64 0, .int .i64 0, .int .i64 0]) 3 24 Tryz.underlying132 hi0 hz0 hz1 hz2 rfl (by decide) _ D'.length _ (by rfl) hownA _ _ _ _ _ (by rfl) (Reads.of_own hOwnX) (by simp [Value.oneCell']) ?_ ?_ (Nat.zero_le _) ?_
    · have := HL.out; unfold maxLen; omega
    · have := HL.out; omega
    intro vb v3 hownB hgrB hrowB
    have hFg := Fr.of_row hgrB
    have hst2 := hFg.blk hD.st (by simpa using hgA)
    have hHeld2 : Fr [g] w2 v3 := hHeld.grown hgrB (fun k hk => hfa k hk)
    have hfr : ∀ k, vb.ownBlock = some k → w2.heap.size ≤ k := fun k hk => by
      rcases hrowB with h | h
      · exact hfa k (h ▸ hk)
      · rw [h] at hk; cases hk; exact hHeld.size
    obtain ⟨A2, c2, rfl⟩ := rown_slice hownB
    clear hFg hgrB hrowB hownA hgA hfa hOwnX
    refine hK.out _ _ ?_ (fun hHeld3 => ?_)
    · (try dsimp only); exact hHeld2
    clear hK K hHeld hD
    have hHeld := hHeld2
    clear hHeld2 hHeld3
    try simp only [Act.put, List.setIfInBounds_toArray, List.set_cons_zero, List.set_cons_succ]
    refine take_yes 17 55 rfl rfl (by kernel_rfl) (by kernel_rfl) (by kernel_rfl) (fun _ _ _ h => h) (by rfl) (by assumption) (v := ?_) ?_ ?_
    rotate_left
    · intro w hSw; (try dsimp only at hSw); go_simp; (try with_reducible rfl)
    try simp only [Act.put, List.setIfInBounds_toArray, List.set_cons_zero, List.set_cons_succ]
    refine take_yes 18 56 rfl rfl (by kernel_rfl) (by kernel_rfl) (by kernel_rfl) (fun _ _ _ h => h) (by rfl) (by assumption) (v := ?_) ?_ ?_
    rotate_left
    · intro w hSw; (try dsimp only at hSw); go_simp; (try with_reducible rfl)
    try simp only [Act.put, List.setIfInBounds_toArray, List.set_cons_zero, List.set_cons_succ]
    have f2 := hst2.fz 1
    have c2y : v3.cell? ⟨g, 1, none⟩ = some (.slice A D'.length cap) := hst2.c 1 _ rfl
    refine wpAnyH_ready (rs := [19]) (by kernel_rfl) (by simp) ?_
    refine AllReadyH.cons (o := _) rfl (fun K hK => ?_) AllReadyH.nil
    go_simp
    (try go_wp2_with fail)
    have hSt : Blk (v3.setCell ⟨g, 1, none⟩ (.slice A2 (D'.length + 1) c2)) g #[.int .i64 n, .slice A2 (D'.length + 1) c2] 134 := by
      have := hst2.set 1 (.slice A2 (D'.length + 1) c2)
      simpa using this
    have hFs : Fr [g] v3 (v3.setCell ⟨g, 1, none⟩ (.slice A2 (D'.length + 1) c2)) := (Fr.refl [g] v3).setCell (p := ⟨g, 1, none⟩) (by simp) (.slice A2 (D'.length + 1) c2)
    have hFZ := hHeld.trans hFs
    have hgB : ∀ k, (Value.slice A2 (D'.length + 1) c2).ownBlock = some k → k ≠ g := fun k hk e => by
      obtain ⟨cur, hc⟩ := rown_blk hownB k hk
      subst e
      exact hc.neT hst2 (by decide) rfl
    have HZ := Lib.hid (HEND.out _ _ _ hSt (rown_frS hownB hFs (fun k hk => by simpa using hgB k hk)) hfr hFZ)
    refine hK.out _ _ ?_ (fun hHeld1 => ?_)
    · (try dsimp only); exact hFZ
    clear hK K
    try simp only [Act.put, List.setIfInBounds_toArray, List.set_cons_zero, List.set_cons_succ]
    refine wpAnyH_done (by kernel_rfl) ?_ _
    clear hst2 hownB hSt hFs hFZ hHeld hHeld1 hgB f2 c2y hfr
    go_wp2_with fail
    go_ret
    exact ⟨rfl, HZ.out⟩
theorem dcSet (k1 k2 a : Int) (n0 : 0 ≤ n) (n1 : n ≤ 1152921504606846976) (hl : D.length ≤ 1000) (h : DCk w g n r D) :
    Calls Tryz.prog 69 #[.pointer (some ⟨g, 0, none⟩), .int .i64 k1, .int .i64 k2, .int .i64 a] w (TSetP w g n r D (k1, k2) a) := by
  by_cases ha : a < 1 ∨ 2147483647 < a
  · refine (dcSet_bad k1 k2 a ha h).mono ?_
    rintro e w' ⟨rfl, rfl⟩
    have e1 : tsE D (k1, k2) a = 1 := by unfold tsE; rw [if_pos ha]
    refine ⟨by rw [e1], r, ?_, fun k hk => Or.inl hk, Fr.refl _ _⟩
    unfold tsL
    rw [e1, if_neg (by decide)]
    exact h
  · by_cases hf : tHas D (k1, k2) = false ∧ 300 ≤ D.length
    · refine (dcSet_full k1 k2 a (fun e => ha (Or.inl e)) (fun e => ha (Or.inr e)) hf.1 hf.2 hl h).mono ?_
      rintro e w' ⟨rfl, hF⟩
      have e1 : tsE D (k1, k2) a = 10 := by unfold tsE; rw [if_neg ha, if_pos hf]
      refine ⟨by rw [e1], r, ?_, fun k hk => Or.inl hk, hF.mono (by simp)⟩
      unfold tsL
      rw [e1, if_neg (by decide)]
      exact h.fr0 hF
    · have e1 : tsE D (k1, k2) a = 0 := by unfold tsE; rw [if_neg ha, if_neg hf]
      refine (dcSet_ok k1 k2 a (by omega) (by omega) n0 n1 ?_ hl h).mono ?_
      · cases hb : tHas D (k1, k2) with
        | true => exact Or.inl rfl
        | false => exact Or.inr ⟨rfl, by
          by_cases hx : 300 ≤ D.length
          · exact absurd ⟨hb, hx⟩ hf
          · omega⟩
      · rintro e w' ⟨rfl, r', h1, h2, h3⟩
        refine ⟨by rw [e1], r', ?_, fun k hk => Or.inr (h2 k hk), h3⟩
        unfold tsL
        rw [e1, if_pos rfl]
        exact h1
end
end Go.Proofs.YtfchbppfbepelaaGreat
