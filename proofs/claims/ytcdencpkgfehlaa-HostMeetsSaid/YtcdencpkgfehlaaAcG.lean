/- ac.New without services (printed by tools/gen_acg.py). -/
import Derived.Test.YtcdencpkgfehlaaAcF
namespace Go.Proofs.Ytcdencpkgfehlaa
open Go.RowKit Go.Maps
set_option linter.unusedVariables false
set_option maxRecDepth 100000 in
theorem cloneNil (W : World) : Calls Try.prog 46 #[.slice none 0 0] W fun e w' => e = .returned (.slice none 0 0) ∧ Fr [] W w' := by
  have hq : ∀ (W : World), (binOp .eql 80 (.slice none 0 0) (.slice none 0 0)).run Try.prog W = .ok (.bool true) W := fun W => by
    simp only [binOp]
    simp [Op.equal, Op.maxDepth, run_equalIn_slice_nil W 9999 _ _ none 0 0 Try.underlying80]
  go_enter Try.func46, Try.ntmps46
  go_wp2_with fail
  go_ret
  exact ⟨rfl, Fr.refl _ _⟩
set_option maxRecDepth 100000 in
theorem long_any (l : List UInt8) (W : World) (h : l.length ≤ 40) : Calls Try.prog 44 #[.string (B l)] W fun e w' => e = .returned (.bool false) ∧ w' = W := by
  have h1 : ¬ (40 : Int) < l.length := by omega
  clear h
  go_enter Try.func44, Try.ntmps44
  go_wp2_with fail
  go_ret
  exact ⟨rfl, rfl⟩
set_option maxRecDepth 100000 in
theorem indexNil (W : World) : Calls Try.prog 70 #[.slice none 0 0, .func (.func 44) #[] #[]] W fun e w' => e = .returned (.int .i64 (-1)) ∧ w' = W := by
  go_enter Try.func70, Try.ntmps70
  go_wp2_with fail
  refine wp_loop_rounds 1 ?_
  rw [rounds_succ]
  go_wp2_with fail
  go_ret
  exact ⟨rfl, rfl⟩
set_option maxRecDepth 100000 in
theorem containsNil (W : World) : Calls Try.prog 45 #[.slice none 0 0, .func (.func 44) #[] #[]] W fun e w' => e = .returned (.bool false) ∧ w' = W := by
  go_enter Try.func45, Try.ntmps45
  go_wp2_with fail
  refine (indexNil _).mono ?_
  rintro e w1 ⟨rfl, rfl⟩
  go_wp2_with fail
  go_ret
  exact ⟨rfl, rfl⟩
def NewC (w : World) (m : Mc) (nm sec : List UInt8) (most : Int) (e : Ending) (w' : World) : Prop := ∃ g xa xb, e = .returned (.tuple #[.pointer (some ⟨g, 0, none⟩), .int .i64 0]) ∧ w.heap.size ≤ g ∧ w.heap.size ≤ xa ∧ w.heap.size ≤ xb ∧ CnIs w' g ⟨m, nm, sec, .slice none 0 0, most, xa, xb, 0, .slice none 0 0⟩ [] [] ∧ Fr [] w w'
theorem newC_of {w W : World} {m1 m2 m3 m4 m5 m6 most : Int} {nm sec : List UInt8} {xa xb : Nat} (hF : Fr [] w W) (ha : MapIs idE ptrV W xa []) (hb : MapIs intE unitV W xb []) (hne : xa ≠ xb) (hxa : w.heap.size ≤ xa) (hxb : w.heap.size ≤ xb)
    (hB : Blk (W.alloc (.cells (cnC ⟨⟨m1, m2, m3, m4, m5, m6⟩, nm, sec, .slice none 0 0, most, xa, xb, 0, .slice none 0 0⟩) 85 (0, 0))) W.heap.size (cnC ⟨⟨m1, m2, m3, m4, m5, m6⟩, nm, sec, .slice none 0 0, most, xa, xb, 0, .slice none 0 0⟩) 85) :
    NewC w ⟨m1, m2, m3, m4, m5, m6⟩ nm sec most (.returned (.tuple #[.pointer (some ⟨W.heap.size, 0, none⟩), .int .i64 0])) (W.alloc (.cells (cnC ⟨⟨m1, m2, m3, m4, m5, m6⟩, nm, sec, .slice none 0 0, most, xa, xb, 0, .slice none 0 0⟩) 85 (0, 0))) := by
  have hFa := (Fr.refl [] W).alloc (.cells (cnC ⟨⟨m1, m2, m3, m4, m5, m6⟩, nm, sec, .slice none 0 0, most, xa, xb, 0, .slice none 0 0⟩) 85 (0, 0))
  exact ⟨_, xa, xb, rfl, hF.size, hxa, hxb, ⟨hB, ha.fr hFa (by simp), hb.fr hFa (by simp), hne, by simp, by simp, by simp, by simp, Int.le_refl _, World.ownsRow_nil _ _ _ _⟩, hF.trans hFa⟩
section
variable {w : World}
set_option maxRecDepth 100000 in
theorem cnew_bad (m : Mc) (most : Int) (h : most < 1 ∨ 60 < most) : Calls Try.prog 22 #[.agg (mcL m).toArray, .string (B [97, 99]), .slice none 0 0, .string (B [115]), .int .i64 most] w fun e w' => e = .returned (.tuple #[.pointer none, .int .i64 1]) ∧ Fr [] w w' := by
  obtain ⟨m1, m2, m3, m4, m5, m6⟩ := m
  have LO := Lib.hid fun W => long_any [97, 99] W (by simp)
  have hF := (Fr.refl [] w).alloc (.cells #[.int .u8 m1, .int .u8 m2, .int .u8 m3, .int .u8 m4, .int .u8 m5, .int .u8 m6] 28 (0, 0))
  have hX : most < 1 ∨ ¬ most < 1 ∧ 60 < most := by omega
  unfold mcL
  simp only
  clear h
  rcases hX with hX | ⟨hX1, hX⟩
  all_goals
    go_enter Try.func22, Try.ntmps22
    go_wp2_with fail
    refine (LO.out _).mono ?_
    rintro e w1 ⟨rfl, rfl⟩
    go_wp2_with fail
    refine (containsNil _).mono ?_
    rintro e w1 ⟨rfl, rfl⟩
    go_wp2_with fail
    go_ret2
    exact ⟨rfl, hF⟩
set_option maxRecDepth 100000 in
set_option maxHeartbeats 16000000 in
theorem cnew_ok (m : Mc) (most : Int) (h0 : 1 ≤ most) (h1 : most ≤ 60) : Calls Try.prog 22 #[.agg (mcL m).toArray, .string (B [97, 99]), .slice none 0 0, .string (B [115]), .int .i64 most] w (NewC w m [97, 99] [115] most) := by
  obtain ⟨m1, m2, m3, m4, m5, m6⟩ := m
  have LO := Lib.hid fun W => long_any [97, 99] W (by simp)
  have hn1 : ¬ most < 1 := by omega
  have hn2 : ¬ 60 < most := by omega
  have hF := (Fr.refl [] w).alloc (.cells #[.int .u8 m1, .int .u8 m2, .int .u8 m3, .int .u8 m4, .int .u8 m5, .int .u8 m6] 28 (0, 0))
  have hN := Blk.new w #[.int .u8 m1, .int .u8 m2, .int .u8 m3, .int .u8 m4, .int .u8 m5, .int .u8 m6] 28
  unfold mcL
  simp only
  clear h0 h1
  go_enter Try.func22, Try.ntmps22
  go_wp2_with fail
  refine (LO.out _).mono ?_
  rintro e w1 ⟨rfl, rfl⟩
  go_wp2_with fail
  refine (containsNil _).mono ?_
  rintro e w1 ⟨rfl, rfl⟩
  go_wp2_with fail
  obtain ⟨nm, hnm⟩ : ∃ l : List UInt8, [97, 99] = l := ⟨_, rfl⟩
  obtain ⟨sec, hsec⟩ : ∃ l : List UInt8, [115] = l := ⟨_, rfl⟩
  have T1 : Hid (∀ W, Calls Try.prog 35 #[.string (B [97, 99])] W fun e w' => e = .returned (.string (B nm)) ∧ Fr [] W w') := Lib.hid fun W => by rw [← hnm]; exact clone_any [97, 99] W (by simp)
  have T2 : Hid (∀ W, Calls Try.prog 35 #[.string (B [115])] W fun e w' => e = .returned (.string (B sec)) ∧ Fr [] W w') := Lib.hid fun W => by rw [← hsec]; exact clone_any [115] W (by simp)
  have CN := Lib.hid fun W => cloneNil W
  have hmm := @run_makeMap Try.prog
  obtain ⟨q, hq⟩ : ∃ q, w.heap.size = q := ⟨_, rfl⟩
  obtain ⟨W3, hW3⟩ : ∃ W, w.alloc (.cells #[.int .u8 m1, .int .u8 m2, .int .u8 m3, .int .u8 m4, .int .u8 m5, .int .u8 m6] 28 (0, 0)) = W := ⟨_, rfl⟩
  rw [hq] at hN ⊢
  rw [hW3] at hN hF ⊢
  have HF3 := Lib.hid hF
  have HX : Hid (∀ W, Fr [] W3 W → (fun W => (W.cell? ⟨q, 0, none⟩ = some (.int .u8 m1) ∧ W.cell? ⟨q, 1, none⟩ = some (.int .u8 m2) ∧ W.cell? ⟨q, 2, none⟩ = some (.int .u8 m3) ∧ W.cell? ⟨q, 3, none⟩ = some (.int .u8 m4) ∧ W.cell? ⟨q, 4, none⟩ = some (.int .u8 m5) ∧ W.cell? ⟨q, 5, none⟩ = some (.int .u8 m6)) ∧ Fr [] W3 W) W) := Lib.hid fun W hW => by
    have hb := hW.blk hN (by simp)
    exact ⟨⟨hb.c 0 _ rfl, hb.c 1 _ rfl, hb.c 2 _ rfl, hb.c 3 _ rfl, hb.c 4 _ rfl, hb.c 5 _ rfl⟩, hW⟩
  have hG0 := HX.out _ (Fr.refl [] W3).drew
  have HQQ : Hid (∀ e w', NewC w ⟨m1, m2, m3, m4, m5, m6⟩ nm sec most e w' → NewC w ⟨m1, m2, m3, m4, m5, m6⟩ [97, 99] [115] most e w') := Lib.hid (by rw [hnm, hsec]; exact fun _ _ h => h)
  have HQ := Lib.hid hq
  clear hnm hsec hq hW3 hN hF LO
  refine wp_region_held_drew (S := (fun W => (W.cell? ⟨q, 0, none⟩ = some (.int .u8 m1) ∧ W.cell? ⟨q, 1, none⟩ = some (.int .u8 m2) ∧ W.cell? ⟨q, 2, none⟩ = some (.int .u8 m3) ∧ W.cell? ⟨q, 3, none⟩ = some (.int .u8 m4) ∧ W.cell? ⟨q, 4, none⟩ = some (.int .u8 m5) ∧ W.cell? ⟨q, 5, none⟩ = some (.int .u8 m6)) ∧ Fr [] W3 W)) (by kernel_rfl) ?_ (fun hHeld => ?_)
  · (try dsimp only); exact hG0
  obtain ⟨v0, hv⟩ : ∃ V, W3.drew = V := ⟨_, rfl⟩
  rw [hv] at hHeld ⊢
  clear hv hG0
  refine take_yes 0 38 rfl rfl (by kernel_rfl) (by kernel_rfl) (by kernel_rfl) (fun _ _ _ h => h) (by rfl) (by assumption) (v := ?_) ?_ ?_
  rotate_left
  · intro w hSw; (try dsimp only at hSw); go_simp; (try with_reducible rfl)
  try simp only [Act.put, List.setIfInBounds_toArray, List.set_cons_zero, List.set_cons_succ]
  refine take_yes 1 39 rfl rfl (by kernel_rfl) (by kernel_rfl) (by kernel_rfl) (fun _ _ _ h => h) (by rfl) (by assumption) (v := ?_) ?_ ?_
  rotate_left
  · intro w hSw; (try dsimp only at hSw); go_simp; (try with_reducible rfl)
  try simp only [Act.put, List.setIfInBounds_toArray, List.set_cons_zero, List.set_cons_succ]
  refine take_yes 3 41 rfl rfl (by kernel_rfl) (by kernel_rfl) (by kernel_rfl) (fun _ _ _ h => h) (by rfl) (by assumption) (v := ?_) ?_ ?_
  rotate_left
  · intro w hSw; (try dsimp only at hSw); go_simp; (try with_reducible rfl)
  try simp only [Act.put, List.setIfInBounds_toArray, List.set_cons_zero, List.set_cons_succ]
  refine take_yes 5 43 rfl rfl (by kernel_rfl) (by kernel_rfl) (by kernel_rfl) (fun _ _ _ h => h) (by rfl) (by assumption) (v := ?_) ?_ ?_
  rotate_left
  · intro w hSw; (try dsimp only at hSw); go_simp; (try with_reducible rfl)
  try simp only [Act.put, List.setIfInBounds_toArray, List.set_cons_zero, List.set_cons_succ]
  refine take_yes 7 45 rfl rfl (by kernel_rfl) (by kernel_rfl) (by kernel_rfl) (fun _ _ _ h => h) (by rfl) (by assumption) (v := ?_) ?_ ?_
  rotate_left
  · intro w hSw; (try dsimp only at hSw); go_simp; (try with_reducible rfl)
  try simp only [Act.put, List.setIfInBounds_toArray, List.set_cons_zero, List.set_cons_succ]
  refine wpAnyH_ready (rs := [2, 8, 9]) (by kernel_rfl) (by simp) ?_
  refine AllReadyH.cons (o := _) rfl (fun K hK => ?_) ?_
  · go_simp
    refine (T1.out _).mono ?_
    rintro r v1 ⟨rfl, hF5⟩
    (try go_wp2_with fail)
    refine hK.out _ _ ?_ (fun hHeld1 => ?_)
    · (try dsimp only); exact HX.out _ (hHeld.2.trans hF5)
    clear hK K
    try simp only [Act.put, List.setIfInBounds_toArray, List.set_cons_zero, List.set_cons_succ]
    replace hHeld := hHeld1
    clear hF5 hHeld1
    refine wpAnyH_ready (rs := [4, 8, 9]) (by kernel_rfl) (by simp) ?_
    refine AllReadyH.cons (o := _) rfl (fun K hK => ?_) ?_
    · go_simp
      refine (T2.out _).mono ?_
      rintro r v2 ⟨rfl, hF5⟩
      (try go_wp2_with fail)
      refine hK.out _ _ ?_ (fun hHeld1 => ?_)
      · (try dsimp only); exact HX.out _ (hHeld.2.trans hF5)
      clear hK K
      try simp only [Act.put, List.setIfInBounds_toArray, List.set_cons_zero, List.set_cons_succ]
      replace hHeld := hHeld1
      clear hF5 hHeld1
      refine wpAnyH_ready (rs := [6, 8, 9]) (by kernel_rfl) (by simp) ?_
      refine AllReadyH.cons (o := _) rfl (fun K hK => ?_) ?_
      · go_simp
        refine (CN.out _).mono ?_
        rintro r v3 ⟨rfl, hF5⟩
        (try go_wp2_with fail)
        refine hK.out _ _ ?_ (fun hHeld1 => ?_)
        · (try dsimp only); exact HX.out _ (hHeld.2.trans hF5)
        clear hK K
        try simp only [Act.put, List.setIfInBounds_toArray, List.set_cons_zero, List.set_cons_succ]
        replace hHeld := hHeld1
        clear hF5 hHeld1
        refine wpAnyH_ready (rs := [8, 9]) (by kernel_rfl) (by simp) ?_
        refine AllReadyH.cons (o := _) rfl (fun K hK => ?_) ?_
        · go_simp
          (try go_wp2_with fail)
          have hFx : Fr [] v3 (v3.alloc (.map #[] 0)) := (Fr.refl _ _).alloc _
          have hMa : MapIs idE ptrV (v3.alloc (.map #[] 0)) v3.heap.size [] := MapIs.new _
          have hXa : w.heap.size ≤ v3.heap.size := Nat.le_trans HF3.out.size hHeld.2.size
          obtain ⟨v4, hV⟩ : ∃ V, v3.alloc (.map #[] 0) = V := ⟨_, rfl⟩
          obtain ⟨xa, hx⟩ : ∃ b, v3.heap.size = b := ⟨_, rfl⟩
          rw [hV] at hFx hMa ⊢
          rw [hx] at hMa hXa ⊢
          refine hK.out _ _ ?_ (fun hHeld1 => ?_)
          · (try dsimp only); exact HX.out _ (hHeld.2.trans hFx)
          clear hK K hV hx hFx
          replace hHeld := hHeld1
          clear hHeld1
          try simp only [Act.put, List.setIfInBounds_toArray, List.set_cons_zero, List.set_cons_succ]
          refine wpAnyH_ready (rs := [9]) (by kernel_rfl) (by simp) ?_
          refine AllReadyH.cons (o := _) rfl (fun K hK => ?_) AllReadyH.nil
          go_simp
          (try go_wp2_with fail)
          have hFx : Fr [] v4 (v4.alloc (.map #[] 0)) := (Fr.refl _ _).alloc _
          have hMb : MapIs intE unitV (v4.alloc (.map #[] 0)) v4.heap.size [] := MapIs.new _
          have hXb : w.heap.size ≤ v4.heap.size := Nat.le_trans HF3.out.size hHeld.2.size
          have hNe : xa ≠ v4.heap.size := by have := hMa.lt; omega
          replace hMa := hMa.fr hFx (by simp)
          obtain ⟨v5, hV⟩ : ∃ V, v4.alloc (.map #[] 0) = V := ⟨_, rfl⟩
          obtain ⟨xb, hx⟩ : ∃ b, v4.heap.size = b := ⟨_, rfl⟩
          rw [hV] at hFx hMb ⊢ hMa
          rw [hx] at hMb hXb ⊢ hNe
          refine hK.out _ _ ?_ (fun hHeld1 => ?_)
          · (try dsimp only); exact HX.out _ (hHeld.2.trans hFx)
          clear hK K hV hx hFx
          replace hHeld := hHeld1
          clear hHeld1
          try simp only [Act.put, List.setIfInBounds_toArray, List.set_cons_zero, List.set_cons_succ]
          refine take_yes 10 48 rfl rfl (by kernel_rfl) (by kernel_rfl) (by kernel_rfl) (fun _ _ _ h => h) (by rfl) (by assumption) (v := ?_) ?_ ?_
          rotate_left
          · intro w hSw; (try dsimp only at hSw); go_simp; (try with_reducible rfl)
          try simp only [Act.put, List.setIfInBounds_toArray, List.set_cons_zero, List.set_cons_succ]
          refine wpAnyH_ready (rs := [11]) (by kernel_rfl) (by simp) ?_
          refine AllReadyH.cons (o := _) rfl (fun K hK => ?_) AllReadyH.nil
          go_simp
          (try go_wp2_with fail)
          have hFz : Fr [] v5 (v5.alloc (.cells #[.int .u8 m1, .int .u8 m2, .int .u8 m3, .int .u8 m4, .int .u8 m5, .int .u8 m6, .string (B nm), .string (B sec), .slice none 0 0, .int .i64 most, .map (some xa), .map (some xb), .int .u16 0, .slice none 0 0] 85 (0, 0))) := (Fr.refl _ _).alloc _
          have hFw := hHeld.2.trans hFz
          have HZ : Hid (NewC w ⟨m1, m2, m3, m4, m5, m6⟩ nm sec most (.returned (.tuple #[.pointer (some ⟨v5.heap.size, 0, none⟩), .int .i64 0])) (v5.alloc (.cells #[.int .u8 m1, .int .u8 m2, .int .u8 m3, .int .u8 m4, .int .u8 m5, .int .u8 m6, .string (B nm), .string (B sec), .slice none 0 0, .int .i64 most, .map (some xa), .map (some xb), .int .u16 0, .slice none 0 0] 85 (0, 0)))) := Lib.hid (newC_of (HF3.out.trans hHeld.2) hMa hMb hNe hXa hXb (Blk.new _ _ _))
          refine hK.out _ _ ?_ (fun hHeld1 => ?_)
          · (try dsimp only); exact HX.out _ hFw
          clear hK K hFz hFw hMa hMb hNe hXa hXb
          try simp only [Act.put, List.setIfInBounds_toArray, List.set_cons_zero, List.set_cons_succ]
          refine take_yes 12 10 rfl rfl (by kernel_rfl) (by kernel_rfl) (by kernel_rfl) (fun _ _ _ h => h) (by rfl) (by assumption) (v := ?_) ?_ ?_
          rotate_left
          · intro w hSw; (try dsimp only at hSw); go_simp; (try with_reducible rfl)
          try simp only [Act.put, List.setIfInBounds_toArray, List.set_cons_zero, List.set_cons_succ]
          refine take_yes 13 11 rfl rfl (by kernel_rfl) (by kernel_rfl) (by kernel_rfl) (fun _ _ _ h => h) (by rfl) (by assumption) (v := ?_) ?_ ?_
          rotate_left
          · intro w hSw; (try dsimp only at hSw); go_simp; (try with_reducible rfl)
          try simp only [Act.put, List.setIfInBounds_toArray, List.set_cons_zero, List.set_cons_succ]
          refine wpAnyH_done (by kernel_rfl) ?_ _
          clear HX
          go_wp2_with fail
          go_ret2
          exact HQQ.out _ _ HZ.out
        refine AllReadyH.cons (o := _) rfl (fun K hK => ?_) AllReadyH.nil
        go_simp
        (try go_wp2_with fail)
        have hFx : Fr [] v3 (v3.alloc (.map #[] 0)) := (Fr.refl _ _).alloc _
        have hMb : MapIs intE unitV (v3.alloc (.map #[] 0)) v3.heap.size [] := MapIs.new _
        have hXb : w.heap.size ≤ v3.heap.size := Nat.le_trans HF3.out.size hHeld.2.size
        obtain ⟨v4, hV⟩ : ∃ V, v3.alloc (.map #[] 0) = V := ⟨_, rfl⟩
        obtain ⟨xb, hx⟩ : ∃ b, v3.heap.size = b := ⟨_, rfl⟩
        rw [hV] at hFx hMb ⊢
        rw [hx] at hMb hXb ⊢
        refine hK.out _ _ ?_ (fun hHeld1 => ?_)
        · (try dsimp only); exact HX.out _ (hHeld.2.trans hFx)
        clear hK K hV hx hFx
        replace hHeld := hHeld1
        clear hHeld1
        try simp only [Act.put, List.setIfInBounds_toArray, List.set_cons_zero, List.set_cons_succ]
        refine wpAnyH_ready (rs := [8]) (by kernel_rfl) (by simp) ?_
        refine AllReadyH.cons (o := _) rfl (fun K hK => ?_) AllReadyH.nil
        go_simp
        (try go_wp2_with fail)
        have hFx : Fr [] v4 (v4.alloc (.map #[] 0)) := (Fr.refl _ _).alloc _
        have hMa : MapIs idE ptrV (v4.alloc (.map #[] 0)) v4.heap.size [] := MapIs.new _
        have hXa : w.heap.size ≤ v4.heap.size := Nat.le_trans HF3.out.size hHeld.2.size
        have hNe : v4.heap.size ≠ xb := by have := hMb.lt; omega
        replace hMb := hMb.fr hFx (by simp)
        obtain ⟨v5, hV⟩ : ∃ V, v4.alloc (.map #[] 0) = V := ⟨_, rfl⟩
        obtain ⟨xa, hx⟩ : ∃ b, v4.heap.size = b := ⟨_, rfl⟩
        rw [hV] at hFx hMa ⊢ hMb
        rw [hx] at hMa hXa ⊢ hNe
        refine hK.out _ _ ?_ (fun hHeld1 => ?_)
        · (try dsimp only); exact HX.out _ (hHeld.2.trans hFx)
        clear hK K hV hx hFx
        replace hHeld := hHeld1
        clear hHeld1
        try simp only [Act.put, List.setIfInBounds_toArray, List.set_cons_zero, List.set_cons_succ]
        refine take_yes 10 48 rfl rfl (by kernel_rfl) (by kernel_rfl) (by kernel_rfl) (fun _ _ _ h => h) (by rfl) (by assumption) (v := ?_) ?_ ?_
        rotate_left
        · intro w hSw; (try dsimp only at hSw); go_simp; (try with_reducible rfl)
        try simp only [Act.put, List.setIfInBounds_toArray, List.set_cons_zero, List.set_cons_succ]
        refine wpAnyH_ready (rs := [11]) (by kernel_rfl) (by simp) ?_
        refine AllReadyH.cons (o := _) rfl (fun K hK => ?_) AllReadyH.nil
        go_simp
        (try go_wp2_with fail)
        have hFz : Fr [] v5 (v5.alloc (.cells #[.int .u8 m1, .int .u8 m2, .int .u8 m3, .int .u8 m4, .int .u8 m5, .int .u8 m6, .string (B nm), .string (B sec), .slice none 0 0, .int .i64 most, .map (some xa), .map (some xb), .int .u16 0, .slice none 0 0] 85 (0, 0))) := (Fr.refl _ _).alloc _
        have hFw := hHeld.2.trans hFz
        have HZ : Hid (NewC w ⟨m1, m2, m3, m4, m5, m6⟩ nm sec most (.returned (.tuple #[.pointer (some ⟨v5.heap.size, 0, none⟩), .int .i64 0])) (v5.alloc (.cells #[.int .u8 m1, .int .u8 m2, .int .u8 m3, .int .u8 m4, .int .u8 m5, .int .u8 m6, .string (B nm), .string (B sec), .slice none 0 0, .int .i64 most, .map (some xa), .map (some xb), .int .u16 0, .slice none 0 0] 85 (0, 0)))) := Lib.hid (newC_of (HF3.out.trans hHeld.2) hMa hMb hNe hXa hXb (Blk.new _ _ _))
        refine hK.out _ _ ?_ (fun hHeld1 => ?_)
        · (try dsimp only); exact HX.out _ hFw
        clear hK K hFz hFw hMa hMb hNe hXa hXb
        try simp only [Act.put, List.setIfInBounds_toArray, List.set_cons_zero, List.set_cons_succ]
        refine take_yes 12 10 rfl rfl (by kernel_rfl) (by kernel_rfl) (by kernel_rfl) (fun _ _ _ h => h) (by rfl) (by assumption) (v := ?_) ?_ ?_
        rotate_left
        · intro w hSw; (try dsimp only at hSw); go_simp; (try with_reducible rfl)
        try simp only [Act.put, List.setIfInBounds_toArray, List.set_cons_zero, List.set_cons_succ]
        refine take_yes 13 11 rfl rfl (by kernel_rfl) (by kernel_rfl) (by kernel_rfl) (fun _ _ _ h => h) (by rfl) (by assumption) (v := ?_) ?_ ?_
        rotate_left
        · intro w hSw; (try dsimp only at hSw); go_simp; (try with_reducible rfl)
        try simp only [Act.put, List.setIfInBounds_toArray, List.set_cons_zero, List.set_cons_succ]
        refine wpAnyH_done (by kernel_rfl) ?_ _
        clear HX
        go_wp2_with fail
        go_ret2
        exact HQQ.out _ _ HZ.out
      refine AllReadyH.cons (o := _) rfl (fun K hK => ?_) ?_
      · go_simp
        (try go_wp2_with fail)
        have hFx : Fr [] v2 (v2.alloc (.map #[] 0)) := (Fr.refl _ _).alloc _
        have hMa : MapIs idE ptrV (v2.alloc (.map #[] 0)) v2.heap.size [] := MapIs.new _
        have hXa : w.heap.size ≤ v2.heap.size := Nat.le_trans HF3.out.size hHeld.2.size
        obtain ⟨v3, hV⟩ : ∃ V, v2.alloc (.map #[] 0) = V := ⟨_, rfl⟩
        obtain ⟨xa, hx⟩ : ∃ b, v2.heap.size = b := ⟨_, rfl⟩
        rw [hV] at hFx hMa ⊢
        rw [hx] at hMa hXa ⊢
        refine hK.out _ _ ?_ (fun hHeld1 => ?_)
        · (try dsimp only); exact HX.out _ (hHeld.2.trans hFx)
        clear hK K hV hx hFx
        replace hHeld := hHeld1
        clear hHeld1
        try simp only [Act.put, List.setIfInBounds_toArray, List.set_cons_zero, List.set_cons_succ]
        refine wpAnyH_ready (rs := [6, 9]) (by kernel_rfl) (by simp) ?_
        refine AllReadyH.cons (o := _) rfl (fun K hK => ?_) ?_
        · go_simp
          refine (CN.out _).mono ?_
          rintro r v4 ⟨rfl, hF5⟩
          (try go_wp2_with fail)
          refine hK.out _ _ ?_ (fun hHeld1 => ?_)
          · (try dsimp only); exact HX.out _ (hHeld.2.trans hF5)
          clear hK K
          try simp only [Act.put, List.setIfInBounds_toArray, List.set_cons_zero, List.set_cons_succ]
          replace hMa := hMa.fr hF5 (by simp)
          replace hHeld := hHeld1
          clear hF5 hHeld1
          refine wpAnyH_ready (rs := [9]) (by kernel_rfl) (by simp) ?_
          refine AllReadyH.cons (o := _) rfl (fun K hK => ?_) AllReadyH.nil
          go_simp
          (try go_wp2_with fail)
          have hFx : Fr [] v4 (v4.alloc (.map #[] 0)) := (Fr.refl _ _).alloc _
          have hMb : MapIs intE unitV (v4.alloc (.map #[] 0)) v4.heap.size [] := MapIs.new _
          have hXb : w.heap.size ≤ v4.heap.size := Nat.le_trans HF3.out.size hHeld.2.size
          have hNe : xa ≠ v4.heap.size := by have := hMa.lt; omega
          replace hMa := hMa.fr hFx (by simp)
          obtain ⟨v5, hV⟩ : ∃ V, v4.alloc (.map #[] 0) = V := ⟨_, rfl⟩
          obtain ⟨xb, hx⟩ : ∃ b, v4.heap.size = b := ⟨_, rfl⟩
          rw [hV] at hFx hMb ⊢ hMa
          rw [hx] at hMb hXb ⊢ hNe
          refine hK.out _ _ ?_ (fun hHeld1 => ?_)
          · (try dsimp only); exact HX.out _ (hHeld.2.trans hFx)
          clear hK K hV hx hFx
          replace hHeld := hHeld1
          clear hHeld1
          try simp only [Act.put, List.setIfInBounds_toArray, List.set_cons_zero, List.set_cons_succ]
          refine take_yes 10 48 rfl rfl (by kernel_rfl) (by kernel_rfl) (by kernel_rfl) (fun _ _ _ h => h) (by rfl) (by assumption) (v := ?_) ?_ ?_
          rotate_left
          · intro w hSw; (try dsimp only at hSw); go_simp; (try with_reducible rfl)
          try simp only [Act.put, List.setIfInBounds_toArray, List.set_cons_zero, List.set_cons_succ]
          refine wpAnyH_ready (rs := [11]) (by kernel_rfl) (by simp) ?_
          refine AllReadyH.cons (o := _) rfl (fun K hK => ?_) AllReadyH.nil
          go_simp
          (try go_wp2_with fail)
          have hFz : Fr [] v5 (v5.alloc (.cells #[.int .u8 m1, .int .u8 m2, .int .u8 m3, .int .u8 m4, .int .u8 m5, .int .u8 m6, .string (B nm), .string (B sec), .slice none 0 0, .int .i64 most, .map (some xa), .map (some xb), .int .u16 0, .slice none 0 0] 85 (0, 0))) := (Fr.refl _ _).alloc _
          have hFw := hHeld.2.trans hFz
          have HZ : Hid (NewC w ⟨m1, m2, m3, m4, m5, m6⟩ nm sec most (.returned (.tuple #[.pointer (some ⟨v5.heap.size, 0, none⟩), .int .i64 0])) (v5.alloc (.cells #[.int .u8 m1, .int .u8 m2, .int .u8 m3, .int .u8 m4, .int .u8 m5, .int .u8 m6, .string (B nm), .string (B sec), .slice none 0 0, .int .i64 most, .map (some xa), .map (some xb), .int .u16 0, .slice none 0 0] 85 (0, 0)))) := Lib.hid (newC_of (HF3.out.trans hHeld.2) hMa hMb hNe hXa hXb (Blk.new _ _ _))
          refine hK.out _ _ ?_ (fun hHeld1 => ?_)
          · (try dsimp only); exact HX.out _ hFw
          clear hK K hFz hFw hMa hMb hNe hXa hXb
          try simp only [Act.put, List.setIfInBounds_toArray, List.set_cons_zero, List.set_cons_succ]
          refine take_yes 12 10 rfl rfl (by kernel_rfl) (by kernel_rfl) (by kernel_rfl) (fun _ _ _ h => h) (by rfl) (by assumption) (v := ?_) ?_ ?_
          rotate_left
          · intro w hSw; (try dsimp only at hSw); go_simp; (try with_reducible rfl)
          try simp only [Act.put, List.setIfInBounds_toArray, List.set_cons_zero, List.set_cons_succ]
          refine take_yes 13 11 rfl rfl (by kernel_rfl) (by kernel_rfl) (by kernel_rfl) (fun _ _ _ h => h) (by rfl) (by assumption) (v := ?_) ?_ ?_
          rotate_left
          · intro w hSw; (try dsimp only at hSw); go_simp; (try with_reducible rfl)
          try simp only [Act.put, List.setIfInBounds_toArray, List.set_cons_zero, List.set_cons_succ]
          refine wpAnyH_done (by kernel_rfl) ?_ _
          clear HX
          go_wp2_with fail
          go_ret2
          exact HQQ.out _ _ HZ.out
        refine AllReadyH.cons (o := _) rfl (fun K hK => ?_) AllReadyH.nil
        go_simp
        (try go_wp2_with fail)
        have hFx : Fr [] v3 (v3.alloc (.map #[] 0)) := (Fr.refl _ _).alloc _
        have hMb : MapIs intE unitV (v3.alloc (.map #[] 0)) v3.heap.size [] := MapIs.new _
        have hXb : w.heap.size ≤ v3.heap.size := Nat.le_trans HF3.out.size hHeld.2.size
        have hNe : xa ≠ v3.heap.size := by have := hMa.lt; omega
        replace hMa := hMa.fr hFx (by simp)
        obtain ⟨v4, hV⟩ : ∃ V, v3.alloc (.map #[] 0) = V := ⟨_, rfl⟩
        obtain ⟨xb, hx⟩ : ∃ b, v3.heap.size = b := ⟨_, rfl⟩
        rw [hV] at hFx hMb ⊢ hMa
        rw [hx] at hMb hXb ⊢ hNe
        refine hK.out _ _ ?_ (fun hHeld1 => ?_)
        · (try dsimp only); exact HX.out _ (hHeld.2.trans hFx)
        clear hK K hV hx hFx
        replace hHeld := hHeld1
        clear hHeld1
        try simp only [Act.put, List.setIfInBounds_toArray, List.set_cons_zero, List.set_cons_succ]
        refine wpAnyH_ready (rs := [6]) (by kernel_rfl) (by simp) ?_
        refine AllReadyH.cons (o := _) rfl (fun K hK => ?_) AllReadyH.nil
        go_simp
        refine (CN.out _).mono ?_
        rintro r v5 ⟨rfl, hF5⟩
        (try go_wp2_with fail)
        refine hK.out _ _ ?_ (fun hHeld1 => ?_)
        · (try dsimp only); exact HX.out _ (hHeld.2.trans hF5)
        clear hK K
        try simp only [Act.put, List.setIfInBounds_toArray, List.set_cons_zero, List.set_cons_succ]
        replace hMa := hMa.fr hF5 (by simp)
        replace hMb := hMb.fr hF5 (by simp)
        replace hHeld := hHeld1
        clear hF5 hHeld1
        refine take_yes 10 48 rfl rfl (by kernel_rfl) (by kernel_rfl) (by kernel_rfl) (fun _ _ _ h => h) (by rfl) (by assumption) (v := ?_) ?_ ?_
        rotate_left
        · intro w hSw; (try dsimp only at hSw); go_simp; (try with_reducible rfl)
        try simp only [Act.put, List.setIfInBounds_toArray, List.set_cons_zero, List.set_cons_succ]
        refine wpAnyH_ready (rs := [11]) (by kernel_rfl) (by simp) ?_
        refine AllReadyH.cons (o := _) rfl (fun K hK => ?_) AllReadyH.nil
        go_simp
        (try go_wp2_with fail)
        have hFz : Fr [] v5 (v5.alloc (.cells #[.int .u8 m1, .int .u8 m2, .int .u8 m3, .int .u8 m4, .int .u8 m5, .int .u8 m6, .string (B nm), .string (B sec), .slice none 0 0, .int .i64 most, .map (some xa), .map (some xb), .int .u16 0, .slice none 0 0] 85 (0, 0))) := (Fr.refl _ _).alloc _
        have hFw := hHeld.2.trans hFz
        have HZ : Hid (NewC w ⟨m1, m2, m3, m4, m5, m6⟩ nm sec most (.returned (.tuple #[.pointer (some ⟨v5.heap.size, 0, none⟩), .int .i64 0])) (v5.alloc (.cells #[.int .u8 m1, .int .u8 m2, .int .u8 m3, .int .u8 m4, .int .u8 m5, .int .u8 m6, .string (B nm), .string (B sec), .slice none 0 0, .int .i64 most, .map (some xa), .map (some xb), .int .u16 0, .slice none 0 0] 85 (0, 0)))) := Lib.hid (newC_of (HF3.out.trans hHeld.2) hMa hMb hNe hXa hXb (Blk.new _ _ _))
        refine hK.out _ _ ?_ (fun hHeld1 => ?_)
        · (try dsimp only); exact HX.out _ hFw
        clear hK K hFz hFw hMa hMb hNe hXa hXb
        try simp only [Act.put, List.setIfInBounds_toArray, List.set_cons_zero, List.set_cons_succ]
        refine take_yes 12 10 rfl rfl (by kernel_rfl) (by kernel_rfl) (by kernel_rfl) (fun _ _ _ h => h) (by rfl) (by assumption) (v := ?_) ?_ ?_
        rotate_left
        · intro w hSw; (try dsimp only at hSw); go_simp; (try with_reducible rfl)
        try simp only [Act.put, List.setIfInBounds_toArray, List.set_cons_zero, List.set_cons_succ]
        refine take_yes 13 11 rfl rfl (by kernel_rfl) (by kernel_rfl) (by kernel_rfl) (fun _ _ _ h => h) (by rfl) (by assumption) (v := ?_) ?_ ?_
        rotate_left
        · intro w hSw; (try dsimp only at hSw); go_simp; (try with_reducible rfl)
        try simp only [Act.put, List.setIfInBounds_toArray, List.set_cons_zero, List.set_cons_succ]
        refine wpAnyH_done (by kernel_rfl) ?_ _
        clear HX
        go_wp2_with fail
        go_ret2
        exact HQQ.out _ _ HZ.out
      refine AllReadyH.cons (o := _) rfl (fun K hK => ?_) AllReadyH.nil
      go_simp
      (try go_wp2_with fail)
      have hFx : Fr [] v2 (v2.alloc (.map #[] 0)) := (Fr.refl _ _).alloc _
      have hMb : MapIs intE unitV (v2.alloc (.map #[] 0)) v2.heap.size [] := MapIs.new _
      have hXb : w.heap.size ≤ v2.heap.size := Nat.le_trans HF3.out.size hHeld.2.size
      obtain ⟨v3, hV⟩ : ∃ V, v2.alloc (.map #[] 0) = V := ⟨_, rfl⟩
      obtain ⟨xb, hx⟩ : ∃ b, v2.heap.size = b := ⟨_, rfl⟩
      rw [hV] at hFx hMb ⊢
      rw [hx] at hMb hXb ⊢
      refine hK.out _ _ ?_ (fun hHeld1 => ?_)
      · (try dsimp only); exact HX.out _ (hHeld.2.trans hFx)
      clear hK K hV hx hFx
      replace hHeld := hHeld1
      clear hHeld1
      try simp only [Act.put, List.setIfInBounds_toArray, List.set_cons_zero, List.set_cons_succ]
      refine wpAnyH_ready (rs := [6, 8]) (by kernel_rfl) (by simp) ?_
      refine AllReadyH.cons (o := _) rfl (fun K hK => ?_) ?_
      · go_simp
        refine (CN.out _).mono ?_
        rintro r v4 ⟨rfl, hF5⟩
        (try go_wp2_with fail)
        refine hK.out _ _ ?_ (fun hHeld1 => ?_)
        · (try dsimp only); exact HX.out _ (hHeld.2.trans hF5)
        clear hK K
        try simp only [Act.put, List.setIfInBounds_toArray, List.set_cons_zero, List.set_cons_succ]
        replace hMb := hMb.fr hF5 (by simp)
        replace hHeld := hHeld1
        clear hF5 hHeld1
        refine wpAnyH_ready (rs := [8]) (by kernel_rfl) (by simp) ?_
        refine AllReadyH.cons (o := _) rfl (fun K hK => ?_) AllReadyH.nil
        go_simp
        (try go_wp2_with fail)
        have hFx : Fr [] v4 (v4.alloc (.map #[] 0)) := (Fr.refl _ _).alloc _
        have hMa : MapIs idE ptrV (v4.alloc (.map #[] 0)) v4.heap.size [] := MapIs.new _
        have hXa : w.heap.size ≤ v4.heap.size := Nat.le_trans HF3.out.size hHeld.2.size
        have hNe : v4.heap.size ≠ xb := by have := hMb.lt; omega
        replace hMb := hMb.fr hFx (by simp)
        obtain ⟨v5, hV⟩ : ∃ V, v4.alloc (.map #[] 0) = V := ⟨_, rfl⟩
        obtain ⟨xa, hx⟩ : ∃ b, v4.heap.size = b := ⟨_, rfl⟩
        rw [hV] at hFx hMa ⊢ hMb
        rw [hx] at hMa hXa ⊢ hNe
        refine hK.out _ _ ?_ (fun hHeld1 => ?_)
        · (try dsimp only); exact HX.out _ (hHeld.2.trans hFx)
        clear hK K hV hx hFx
        replace hHeld := hHeld1
        clear hHeld1
        try simp only [Act.put, List.setIfInBounds_toArray, List.set_cons_zero, List.set_cons_succ]
        refine take_yes 10 48 rfl rfl (by kernel_rfl) (by kernel_rfl) (by kernel_rfl) (fun _ _ _ h => h) (by rfl) (by assumption) (v := ?_) ?_ ?_
        rotate_left
        · intro w hSw; (try dsimp only at hSw); go_simp; (try with_reducible rfl)
        try simp only [Act.put, List.setIfInBounds_toArray, List.set_cons_zero, List.set_cons_succ]
        refine wpAnyH_ready (rs := [11]) (by kernel_rfl) (by simp) ?_
        refine AllReadyH.cons (o := _) rfl (fun K hK => ?_) AllReadyH.nil
        go_simp
        (try go_wp2_with fail)
        have hFz : Fr [] v5 (v5.alloc (.cells #[.int .u8 m1, .int .u8 m2, .int .u8 m3, .int .u8 m4, .int .u8 m5, .int .u8 m6, .string (B nm), .string (B sec), .slice none 0 0, .int .i64 most, .map (some xa), .map (some xb), .int .u16 0, .slice none 0 0] 85 (0, 0))) := (Fr.refl _ _).alloc _
        have hFw := hHeld.2.trans hFz
        have HZ : Hid (NewC w ⟨m1, m2, m3, m4, m5, m6⟩ nm sec most (.returned (.tuple #[.pointer (some ⟨v5.heap.size, 0, none⟩), .int .i64 0])) (v5.alloc (.cells #[.int .u8 m1, .int .u8 m2, .int .u8 m3, .int .u8 m4, .int .u8 m5, .int .u8 m6, .string (B nm), .string (B sec), .slice none 0 0, .int .i64 most, .map (some xa), .map (some xb), .int .u16 0, .slice none 0 0] 85 (0, 0)))) := Lib.hid (newC_of (HF3.out.trans hHeld.2) hMa hMb hNe hXa hXb (Blk.new _ _ _))
        refine hK.out _ _ ?_ (fun hHeld1 => ?_)
        · (try dsimp only); exact HX.out _ hFw
        clear hK K hFz hFw hMa hMb hNe hXa hXb
        try simp only [Act.put, List.setIfInBounds_toArray, List.set_cons_zero, List.set_cons_succ]
        refine take_yes 12 10 rfl rfl (by kernel_rfl) (by kernel_rfl) (by kernel_rfl) (fun _ _ _ h => h) (by rfl) (by assumption) (v := ?_) ?_ ?_
        rotate_left
        · intro w hSw; (try dsimp only at hSw); go_simp; (try with_reducible rfl)
        try simp only [Act.put, List.setIfInBounds_toArray, List.set_cons_zero, List.set_cons_succ]
        refine take_yes 13 11 rfl rfl (by kernel_rfl) (by kernel_rfl) (by kernel_rfl) (fun _ _ _ h => h) (by rfl) (by assumption) (v := ?_) ?_ ?_
        rotate_left
        · intro w hSw; (try dsimp only at hSw); go_simp; (try with_reducible rfl)
        try simp only [Act.put, List.setIfInBounds_toArray, List.set_cons_zero, List.set_cons_succ]
        refine wpAnyH_done (by kernel_rfl) ?_ _
        clear HX
        go_wp2_with fail
        go_ret2
        exact HQQ.out _ _ HZ.out
      refine AllReadyH.cons (o := _) rfl (fun K hK => ?_) AllReadyH.nil
      go_simp
      (try go_wp2_with fail)
      have hFx : Fr [] v3 (v3.alloc (.map #[] 0)) := (Fr.refl _ _).alloc _
      have hMa : MapIs idE ptrV (v3.alloc (.map #[] 0)) v3.heap.size [] := MapIs.new _
      have hXa : w.heap.size ≤ v3.heap.size := Nat.le_trans HF3.out.size hHeld.2.size
      have hNe : v3.heap.size ≠ xb := by have := hMb.lt; omega
      replace hMb := hMb.fr hFx (by simp)
      obtain ⟨v4, hV⟩ : ∃ V, v3.alloc (.map #[] 0) = V := ⟨_, rfl⟩
      obtain ⟨xa, hx⟩ : ∃ b, v3.heap.size = b := ⟨_, rfl⟩
      rw [hV] at hFx hMa ⊢ hMb
      rw [hx] at hMa hXa ⊢ hNe
      refine hK.out _ _ ?_ (fun hHeld1 => ?_)
      · (try dsimp only); exact HX.out _ (hHeld.2.trans hFx)
      clear hK K hV hx hFx
      replace hHeld := hHeld1
      clear hHeld1
      try simp only [Act.put, List.setIfInBounds_toArray, List.set_cons_zero, List.set_cons_succ]
      refine wpAnyH_ready (rs := [6]) (by kernel_rfl) (by simp) ?_
      refine AllReadyH.cons (o := _) rfl (fun K hK => ?_) AllReadyH.nil
      go_simp
      refine (CN.out _).mono ?_
      rintro r v5 ⟨rfl, hF5⟩
      (try go_wp2_with fail)
      refine hK.out _ _ ?_ (fun hHeld1 => ?_)
      · (try dsimp only); exact HX.out _ (hHeld.2.trans hF5)
      clear hK K
      try simp only [Act.put, List.setIfInBounds_toArray, List.set_cons_zero, List.set_cons_succ]
      replace hMa := hMa.fr hF5 (by simp)
      replace hMb := hMb.fr hF5 (by simp)
      replace hHeld := hHeld1
      clear hF5 hHeld1
      refine take_yes 10 48 rfl rfl (by kernel_rfl) (by kernel_rfl) (by kernel_rfl) (fun _ _ _ h => h) (by rfl) (by assumption) (v := ?_) ?_ ?_
      rotate_left
      · intro w hSw; (try dsimp only at hSw); go_simp; (try with_reducible rfl)
      try simp only [Act.put, List.setIfInBounds_toArray, List.set_cons_zero, List.set_cons_succ]
      refine wpAnyH_ready (rs := [11]) (by kernel_rfl) (by simp) ?_
      refine AllReadyH.cons (o := _) rfl (fun K hK => ?_) AllReadyH.nil
      go_simp
      (try go_wp2_with fail)
      have hFz : Fr [] v5 (v5.alloc (.cells #[.int .u8 m1, .int .u8 m2, .int .u8 m3, .int .u8 m4, .int .u8 m5, .int .u8 m6, .string (B nm), .string (B sec), .slice none 0 0, .int .i64 most, .map (some xa), .map (some xb), .int .u16 0, .slice none 0 0] 85 (0, 0))) := (Fr.refl _ _).alloc _
      have hFw := hHeld.2.trans hFz
      have HZ : Hid (NewC w ⟨m1, m2, m3, m4, m5, m6⟩ nm sec most (.returned (.tuple #[.pointer (some ⟨v5.heap.size, 0, none⟩), .int .i64 0])) (v5.alloc (.cells #[.int .u8 m1, .int .u8 m2, .int .u8 m3, .int .u8 m4, .int .u8 m5, .int .u8 m6, .string (B nm), .string (B sec), .slice none 0 0, .int .i64 most, .map (some xa), .map (some xb), .int .u16 0, .slice none 0 0] 85 (0, 0)))) := Lib.hid (newC_of (HF3.out.trans hHeld.2) hMa hMb hNe hXa hXb (Blk.new _ _ _))
      refine hK.out _ _ ?_ (fun hHeld1 => ?_)
      · (try dsimp only); exact HX.out _ hFw
      clear hK K hFz hFw hMa hMb hNe hXa hXb
      try simp only [Act.put, List.setIfInBounds_toArray, List.set_cons_zero, List.set_cons_succ]
      refine take_yes 12 10 rfl rfl (by kernel_rfl) (by kernel_rfl) (by kernel_rfl) (fun _ _ _ h => h) (by rfl) (by assumption) (v := ?_) ?_ ?_
      rotate_left
      · intro w hSw; (try dsimp only at hSw); go_simp; (try with_reducible rfl)
      try simp only [Act.put, List.setIfInBounds_toArray, List.set_cons_zero, List.set_cons_succ]
      refine take_yes 13 11 rfl rfl (by kernel_rfl) (by kernel_rfl) (by kernel_rfl) (fun _ _ _ h => h) (by rfl) (by assumption) (v := ?_) ?_ ?_
      rotate_left
      · intro w hSw; (try dsimp only at hSw); go_simp; (try with_reducible rfl)
      try simp only [Act.put, List.setIfInBounds_toArray, List.set_cons_zero, List.set_cons_succ]
      refine wpAnyH_done (by kernel_rfl) ?_ _
      clear HX
      go_wp2_with fail
      go_ret2
      exact HQQ.out _ _ HZ.out
    refine AllReadyH.cons (o := _) rfl (fun K hK => ?_) ?_
    · go_simp
      (try go_wp2_with fail)
      have hFx : Fr [] v1 (v1.alloc (.map #[] 0)) := (Fr.refl _ _).alloc _
      have hMa : MapIs idE ptrV (v1.alloc (.map #[] 0)) v1.heap.size [] := MapIs.new _
      have hXa : w.heap.size ≤ v1.heap.size := Nat.le_trans HF3.out.size hHeld.2.size
      obtain ⟨v2, hV⟩ : ∃ V, v1.alloc (.map #[] 0) = V := ⟨_, rfl⟩
      obtain ⟨xa, hx⟩ : ∃ b, v1.heap.size = b := ⟨_, rfl⟩
      rw [hV] at hFx hMa ⊢
      rw [hx] at hMa hXa ⊢
      refine hK.out _ _ ?_ (fun hHeld1 => ?_)
      · (try dsimp only); exact HX.out _ (hHeld.2.trans hFx)
      clear hK K hV hx hFx
      replace hHeld := hHeld1
      clear hHeld1
      try simp only [Act.put, List.setIfInBounds_toArray, List.set_cons_zero, List.set_cons_succ]
      refine wpAnyH_ready (rs := [4, 9]) (by kernel_rfl) (by simp) ?_
      refine AllReadyH.cons (o := _) rfl (fun K hK => ?_) ?_
      · go_simp
        refine (T2.out _).mono ?_
        rintro r v3 ⟨rfl, hF5⟩
        (try go_wp2_with fail)
        refine hK.out _ _ ?_ (fun hHeld1 => ?_)
        · (try dsimp only); exact HX.out _ (hHeld.2.trans hF5)
        clear hK K
        try simp only [Act.put, List.setIfInBounds_toArray, List.set_cons_zero, List.set_cons_succ]
        replace hMa := hMa.fr hF5 (by simp)
        replace hHeld := hHeld1
        clear hF5 hHeld1
        refine wpAnyH_ready (rs := [6, 9]) (by kernel_rfl) (by simp) ?_
        refine AllReadyH.cons (o := _) rfl (fun K hK => ?_) ?_
        · go_simp
          refine (CN.out _).mono ?_
          rintro r v4 ⟨rfl, hF5⟩
          (try go_wp2_with fail)
          refine hK.out _ _ ?_ (fun hHeld1 => ?_)
          · (try dsimp only); exact HX.out _ (hHeld.2.trans hF5)
          clear hK K
          try simp only [Act.put, List.setIfInBounds_toArray, List.set_cons_zero, List.set_cons_succ]
          replace hMa := hMa.fr hF5 (by simp)
          replace hHeld := hHeld1
          clear hF5 hHeld1
          refine wpAnyH_ready (rs := [9]) (by kernel_rfl) (by simp) ?_
          refine AllReadyH.cons (o := _) rfl (fun K hK => ?_) AllReadyH.nil
          go_simp
          (try go_wp2_with fail)
          have hFx : Fr [] v4 (v4.alloc (.map #[] 0)) := (Fr.refl _ _).alloc _
          have hMb : MapIs intE unitV (v4.alloc (.map #[] 0)) v4.heap.size [] := MapIs.new _
          have hXb : w.heap.size ≤ v4.heap.size := Nat.le_trans HF3.out.size hHeld.2.size
          have hNe : xa ≠ v4.heap.size := by have := hMa.lt; omega
          replace hMa := hMa.fr hFx (by simp)
          obtain ⟨v5, hV⟩ : ∃ V, v4.alloc (.map #[] 0) = V := ⟨_, rfl⟩
          obtain ⟨xb, hx⟩ : ∃ b, v4.heap.size = b := ⟨_, rfl⟩
          rw [hV] at hFx hMb ⊢ hMa
          rw [hx] at hMb hXb ⊢ hNe
          refine hK.out _ _ ?_ (fun hHeld1 => ?_)
          · (try dsimp only); exact HX.out _ (hHeld.2.trans hFx)
          clear hK K hV hx hFx
          replace hHeld := hHeld1
          clear hHeld1
          try simp only [Act.put, List.setIfInBounds_toArray, List.set_cons_zero, List.set_cons_succ]
          refine take_yes 10 48 rfl rfl (by kernel_rfl) (by kernel_rfl) (by kernel_rfl) (fun _ _ _ h => h) (by rfl) (by assumption) (v := ?_) ?_ ?_
          rotate_left
          · intro w hSw; (try dsimp only at hSw); go_simp; (try with_reducible rfl)
          try simp only [Act.put, List.setIfInBounds_toArray, List.set_cons_zero, List.set_cons_succ]
          refine wpAnyH_ready (rs := [11]) (by kernel_rfl) (by simp) ?_
          refine AllReadyH.cons (o := _) rfl (fun K hK => ?_) AllReadyH.nil
          go_simp
          (try go_wp2_with fail)
          have hFz : Fr [] v5 (v5.alloc (.cells #[.int .u8 m1, .int .u8 m2, .int .u8 m3, .int .u8 m4, .int .u8 m5, .int .u8 m6, .string (B nm), .string (B sec), .slice none 0 0, .int .i64 most, .map (some xa), .map (some xb), .int .u16 0, .slice none 0 0] 85 (0, 0))) := (Fr.refl _ _).alloc _
          have hFw := hHeld.2.trans hFz
          have HZ : Hid (NewC w ⟨m1, m2, m3, m4, m5, m6⟩ nm sec most (.returned (.tuple #[.pointer (some ⟨v5.heap.size, 0, none⟩), .int .i64 0])) (v5.alloc (.cells #[.int .u8 m1, .int .u8 m2, .int .u8 m3, .int .u8 m4, .int .u8 m5, .int .u8 m6, .string (B nm), .string (B sec), .slice none 0 0, .int .i64 most, .map (some xa), .map (some xb), .int .u16 0, .slice none 0 0] 85 (0, 0)))) := Lib.hid (newC_of (HF3.out.trans hHeld.2) hMa hMb hNe hXa hXb (Blk.new _ _ _))
          refine hK.out _ _ ?_ (fun hHeld1 => ?_)
          · (try dsimp only); exact HX.out _ hFw
          clear hK K hFz hFw hMa hMb hNe hXa hXb
          try simp only [Act.put, List.setIfInBounds_toArray, List.set_cons_zero, List.set_cons_succ]
          refine take_yes 12 10 rfl rfl (by kernel_rfl) (by kernel_rfl) (by kernel_rfl) (fun _ _ _ h => h) (by rfl) (by assumption) (v := ?_) ?_ ?_
          rotate_left
          · intro w hSw; (try dsimp only at hSw); go_simp; (try with_reducible rfl)
          try simp only [Act.put, List.setIfInBounds_toArray, List.set_cons_zero, List.set_cons_succ]
          refine take_yes 13 11 rfl rfl (by kernel_rfl) (by kernel_rfl) (by kernel_rfl) (fun _ _ _ h => h) (by rfl) (by assumption) (v := ?_) ?_ ?_
          rotate_left
          · intro w hSw; (try dsimp only at hSw); go_simp; (try with_reducible rfl)
          try simp only [Act.put, List.setIfInBounds_toArray, List.set_cons_zero, List.set_cons_succ]
          refine wpAnyH_done (by kernel_rfl) ?_ _
          clear HX
          go_wp2_with fail
          go_ret2
          exact HQQ.out _ _ HZ.out
        refine AllReadyH.cons (o := _) rfl (fun K hK => ?_) AllReadyH.nil
        go_simp
        (try go_wp2_with fail)
        have hFx : Fr [] v3 (v3.alloc (.map #[] 0)) := (Fr.refl _ _).alloc _
        have hMb : MapIs intE unitV (v3.alloc (.map #[] 0)) v3.heap.size [] := MapIs.new _
        have hXb : w.heap.size ≤ v3.heap.size := Nat.le_trans HF3.out.size hHeld.2.size
        have hNe : xa ≠ v3.heap.size := by have := hMa.lt; omega
        replace hMa := hMa.fr hFx (by simp)
        obtain ⟨v4, hV⟩ : ∃ V, v3.alloc (.map #[] 0) = V := ⟨_, rfl⟩
        obtain ⟨xb, hx⟩ : ∃ b, v3.heap.size = b := ⟨_, rfl⟩
        rw [hV] at hFx hMb ⊢ hMa
        rw [hx] at hMb hXb ⊢ hNe
        refine hK.out _ _ ?_ (fun hHeld1 => ?_)
        · (try dsimp only); exact HX.out _ (hHeld.2.trans hFx)
        clear hK K hV hx hFx
        replace hHeld := hHeld1
        clear hHeld1
        try simp only [Act.put, List.setIfInBounds_toArray, List.set_cons_zero, List.set_cons_succ]
        refine wpAnyH_ready (rs := [6]) (by kernel_rfl) (by simp) ?_
        refine AllReadyH.cons (o := _) rfl (fun K hK => ?_) AllReadyH.nil
        go_simp
        refine (CN.out _).mono ?_
        rintro r v5 ⟨rfl, hF5⟩
        (try go_wp2_with fail)
        refine hK.out _ _ ?_ (fun hHeld1 => ?_)
        · (try dsimp only); exact HX.out _ (hHeld.2.trans hF5)
        clear hK K
        try simp only [Act.put, List.setIfInBounds_toArray, List.set_cons_zero, List.set_cons_succ]
        replace hMa := hMa.fr hF5 (by simp)
        replace hMb := hMb.fr hF5 (by simp)
        replace hHeld := hHeld1
        clear hF5 hHeld1
        refine take_yes 10 48 rfl rfl (by kernel_rfl) (by kernel_rfl) (by kernel_rfl) (fun _ _ _ h => h) (by rfl) (by assumption) (v := ?_) ?_ ?_
        rotate_left
        · intro w hSw; (try dsimp only at hSw); go_simp; (try with_reducible rfl)
        try simp only [Act.put, List.setIfInBounds_toArray, List.set_cons_zero, List.set_cons_succ]
        refine wpAnyH_ready (rs := [11]) (by kernel_rfl) (by simp) ?_
        refine AllReadyH.cons (o := _) rfl (fun K hK => ?_) AllReadyH.nil
        go_simp
        (try go_wp2_with fail)
        have hFz : Fr [] v5 (v5.alloc (.cells #[.int .u8 m1, .int .u8 m2, .int .u8 m3, .int .u8 m4, .int .u8 m5, .int .u8 m6, .string (B nm), .string (B sec), .slice none 0 0, .int .i64 most, .map (some xa), .map (some xb), .int .u16 0, .slice none 0 0] 85 (0, 0))) := (Fr.refl _ _).alloc _
        have hFw := hHeld.2.trans hFz
        have HZ : Hid (NewC w ⟨m1, m2, m3, m4, m5, m6⟩ nm sec most (.returned (.tuple #[.pointer (some ⟨v5.heap.size, 0, none⟩), .int .i64 0])) (v5.alloc (.cells #[.int .u8 m1, .int .u8 m2, .int .u8 m3, .int .u8 m4, .int .u8 m5, .int .u8 m6, .string (B nm), .string (B sec), .slice none 0 0, .int .i64 most, .map (some xa), .map (some xb), .int .u16 0, .slice none 0 0] 85 (0, 0)))) := Lib.hid (newC_of (HF3.out.trans hHeld.2) hMa hMb hNe hXa hXb (Blk.new _ _ _))
        refine hK.out _ _ ?_ (fun hHeld1 => ?_)
        · (try dsimp only); exact HX.out _ hFw
        clear hK K hFz hFw hMa hMb hNe hXa hXb
        try simp only [Act.put, List.setIfInBounds_toArray, List.set_cons_zero, List.set_cons_succ]
        refine take_yes 12 10 rfl rfl (by kernel_rfl) (by kernel_rfl) (by kernel_rfl) (fun _ _ _ h => h) (by rfl) (by assumption) (v := ?_) ?_ ?_
        rotate_left
        · intro w hSw; (try dsimp only at hSw); go_simp; (try with_reducible rfl)
        try simp only [Act.put, List.setIfInBounds_toArray, List.set_cons_zero, List.set_cons_succ]
        refine take_yes 13 11 rfl rfl (by kernel_rfl) (by kernel_rfl) (by kernel_rfl) (fun _ _ _ h => h) (by rfl) (by assumption) (v := ?_) ?_ ?_
        rotate_left
        · intro w hSw; (try dsimp only at hSw); go_simp; (try with_reducible rfl)
        try simp only [Act.put, List.setIfInBounds_toArray, List.set_cons_zero, List.set_cons_succ]
        refine wpAnyH_done (by kernel_rfl) ?_ _
        clear HX
        go_wp2_with fail
        go_ret2
        exact HQQ.out _ _ HZ.out
      refine AllReadyH.cons (o := _) rfl (fun K hK => ?_) AllReadyH.nil
      go_simp
      (try go_wp2_with fail)
      have hFx : Fr [] v2 (v2.alloc (.map #[] 0)) := (Fr.refl _ _).alloc _
      have hMb : MapIs intE unitV (v2.alloc (.map #[] 0)) v2.heap.size [] := MapIs.new _
      have hXb : w.heap.size ≤ v2.heap.size := Nat.le_trans HF3.out.size hHeld.2.size
      have hNe : xa ≠ v2.heap.size := by have := hMa.lt; omega
      replace hMa := hMa.fr hFx (by simp)
      obtain ⟨v3, hV⟩ : ∃ V, v2.alloc (.map #[] 0) = V := ⟨_, rfl⟩
      obtain ⟨xb, hx⟩ : ∃ b, v2.heap.size = b := ⟨_, rfl⟩
      rw [hV] at hFx hMb ⊢ hMa
      rw [hx] at hMb hXb ⊢ hNe
      refine hK.out _ _ ?_ (fun hHeld1 => ?_)
      · (try dsimp only); exact HX.out _ (hHeld.2.trans hFx)
      clear hK K hV hx hFx
      replace hHeld := hHeld1
      clear hHeld1
      try simp only [Act.put, List.setIfInBounds_toArray, List.set_cons_zero, List.set_cons_succ]
      refine wpAnyH_ready (rs := [4]) (by kernel_rfl) (by simp) ?_
      refine AllReadyH.cons (o := _) rfl (fun K hK => ?_) AllReadyH.nil
      go_simp
      refine (T2.out _).mono ?_
      rintro r v4 ⟨rfl, hF5⟩
      (try go_wp2_with fail)
      refine hK.out _ _ ?_ (fun hHeld1 => ?_)
      · (try dsimp only); exact HX.out _ (hHeld.2.trans hF5)
      clear hK K
      try simp only [Act.put, List.setIfInBounds_toArray, List.set_cons_zero, List.set_cons_succ]
      replace hMa := hMa.fr hF5 (by simp)
      replace hMb := hMb.fr hF5 (by simp)
      replace hHeld := hHeld1
      clear hF5 hHeld1
      refine wpAnyH_ready (rs := [6]) (by kernel_rfl) (by simp) ?_
      refine AllReadyH.cons (o := _) rfl (fun K hK => ?_) AllReadyH.nil
      go_simp
      refine (CN.out _).mono ?_
      rintro r v5 ⟨rfl, hF5⟩
      (try go_wp2_with fail)
      refine hK.out _ _ ?_ (fun hHeld1 => ?_)
      · (try dsimp only); exact HX.out _ (hHeld.2.trans hF5)
      clear hK K
      try simp only [Act.put, List.setIfInBounds_toArray, List.set_cons_zero, List.set_cons_succ]
      replace hMa := hMa.fr hF5 (by simp)
      replace hMb := hMb.fr hF5 (by simp)
      replace hHeld := hHeld1
      clear hF5 hHeld1
      refine take_yes 10 48 rfl rfl (by kernel_rfl) (by kernel_rfl) (by kernel_rfl) (fun _ _ _ h => h) (by rfl) (by assumption) (v := ?_) ?_ ?_
      rotate_left
      · intro w hSw; (try dsimp only at hSw); go_simp; (try with_reducible rfl)
      try simp only [Act.put, List.setIfInBounds_toArray, List.set_cons_zero, List.set_cons_succ]
      refine wpAnyH_ready (rs := [11]) (by kernel_rfl) (by simp) ?_
      refine AllReadyH.cons (o := _) rfl (fun K hK => ?_) AllReadyH.nil
      go_simp
      (try go_wp2_with fail)
      have hFz : Fr [] v5 (v5.alloc (.cells #[.int .u8 m1, .int .u8 m2, .int .u8 m3, .int .u8 m4, .int .u8 m5, .int .u8 m6, .string (B nm), .string (B sec), .slice none 0 0, .int .i64 most, .map (some xa), .map (some xb), .int .u16 0, .slice none 0 0] 85 (0, 0))) := (Fr.refl _ _).alloc _
      have hFw := hHeld.2.trans hFz
      have HZ : Hid (NewC w ⟨m1, m2, m3, m4, m5, m6⟩ nm sec most (.returned (.tuple #[.pointer (some ⟨v5.heap.size, 0, none⟩), .int .i64 0])) (v5.alloc (.cells #[.int .u8 m1, .int .u8 m2, .int .u8 m3, .int .u8 m4, .int .u8 m5, .int .u8 m6, .string (B nm), .string (B sec), .slice none 0 0, .int .i64 most, .map (some xa), .map (some xb), .int .u16 0, .slice none 0 0] 85 (0, 0)))) := Lib.hid (newC_of (HF3.out.trans hHeld.2) hMa hMb hNe hXa hXb (Blk.new _ _ _))
      refine hK.out _ _ ?_ (fun hHeld1 => ?_)
      · (try dsimp only); exact HX.out _ hFw
      clear hK K hFz hFw hMa hMb hNe hXa hXb
      try simp only [Act.put, List.setIfInBounds_toArray, List.set_cons_zero, List.set_cons_succ]
      refine take_yes 12 10 rfl rfl (by kernel_rfl) (by kernel_rfl) (by kernel_rfl) (fun _ _ _ h => h) (by rfl) (by assumption) (v := ?_) ?_ ?_
      rotate_left
      · intro w hSw; (try dsimp only at hSw); go_simp; (try with_reducible rfl)
      try simp only [Act.put, List.setIfInBounds_toArray, List.set_cons_zero, List.set_cons_succ]
      refine take_yes 13 11 rfl rfl (by kernel_rfl) (by kernel_rfl) (by kernel_rfl) (fun _ _ _ h => h) (by rfl) (by assumption) (v := ?_) ?_ ?_
      rotate_left
      · intro w hSw; (try dsimp only at hSw); go_simp; (try with_reducible rfl)
      try simp only [Act.put, List.setIfInBounds_toArray, List.set_cons_zero, List.set_cons_succ]
      refine wpAnyH_done (by kernel_rfl) ?_ _
      clear HX
      go_wp2_with fail
      go_ret2
      exact HQQ.out _ _ HZ.out
    refine AllReadyH.cons (o := _) rfl (fun K hK => ?_) AllReadyH.nil
    go_simp
    (try go_wp2_with fail)
    have hFx : Fr [] v1 (v1.alloc (.map #[] 0)) := (Fr.refl _ _).alloc _
    have hMb : MapIs intE unitV (v1.alloc (.map #[] 0)) v1.heap.size [] := MapIs.new _
    have hXb : w.heap.size ≤ v1.heap.size := Nat.le_trans HF3.out.size hHeld.2.size
    obtain ⟨v2, hV⟩ : ∃ V, v1.alloc (.map #[] 0) = V := ⟨_, rfl⟩
    obtain ⟨xb, hx⟩ : ∃ b, v1.heap.size = b := ⟨_, rfl⟩
    rw [hV] at hFx hMb ⊢
    rw [hx] at hMb hXb ⊢
    refine hK.out _ _ ?_ (fun hHeld1 => ?_)
    · (try dsimp only); exact HX.out _ (hHeld.2.trans hFx)
    clear hK K hV hx hFx
    replace hHeld := hHeld1
    clear hHeld1
    try simp only [Act.put, List.setIfInBounds_toArray, List.set_cons_zero, List.set_cons_succ]
    refine wpAnyH_ready (rs := [4, 8]) (by kernel_rfl) (by simp) ?_
    refine AllReadyH.cons (o := _) rfl (fun K hK => ?_) ?_
    · go_simp
      refine (T2.out _).mono ?_
      rintro r v3 ⟨rfl, hF5⟩
      (try go_wp2_with fail)
      refine hK.out _ _ ?_ (fun hHeld1 => ?_)
      · (try dsimp only); exact HX.out _ (hHeld.2.trans hF5)
      clear hK K
      try simp only [Act.put, List.setIfInBounds_toArray, List.set_cons_zero, List.set_cons_succ]
      replace hMb := hMb.fr hF5 (by simp)
      replace hHeld := hHeld1
      clear hF5 hHeld1
      refine wpAnyH_ready (rs := [6, 8]) (by kernel_rfl) (by simp) ?_
      refine AllReadyH.cons (o := _) rfl (fun K hK => ?_) ?_
      · go_simp
        refine (CN.out _).mono ?_
        rintro r v4 ⟨rfl, hF5⟩
        (try go_wp2_with fail)
        refine hK.out _ _ ?_ (fun hHeld1 => ?_)
        · (try dsimp only); exact HX.out _ (hHeld.2.trans hF5)
        clear hK K
        try simp only [Act.put, List.setIfInBounds_toArray, List.set_cons_zero, List.set_cons_succ]
        replace hMb := hMb.fr hF5 (by simp)
        replace hHeld := hHeld1
        clear hF5 hHeld1
        refine wpAnyH_ready (rs := [8]) (by kernel_rfl) (by simp) ?_
        refine AllReadyH.cons (o := _) rfl (fun K hK => ?_) AllReadyH.nil
        go_simp
        (try go_wp2_with fail)
        have hFx : Fr [] v4 (v4.alloc (.map #[] 0)) := (Fr.refl _ _).alloc _
        have hMa : MapIs idE ptrV (v4.alloc (.map #[] 0)) v4.heap.size [] := MapIs.new _
        have hXa : w.heap.size ≤ v4.heap.size := Nat.le_trans HF3.out.size hHeld.2.size
        have hNe : v4.heap.size ≠ xb := by have := hMb.lt; omega
        replace hMb := hMb.fr hFx (by simp)
        obtain ⟨v5, hV⟩ : ∃ V, v4.alloc (.map #[] 0) = V := ⟨_, rfl⟩
        obtain ⟨xa, hx⟩ : ∃ b, v4.heap.size = b := ⟨_, rfl⟩
        rw [hV] at hFx hMa ⊢ hMb
        rw [hx] at hMa hXa ⊢ hNe
        refine hK.out _ _ ?_ (fun hHeld1 => ?_)
        · (try dsimp only); exact HX.out _ (hHeld.2.trans hFx)
        clear hK K hV hx hFx
        replace hHeld := hHeld1
        clear hHeld1
        try simp only [Act.put, List.setIfInBounds_toArray, List.set_cons_zero, List.set_cons_succ]
        refine take_yes 10 48 rfl rfl (by kernel_rfl) (by kernel_rfl) (by kernel_rfl) (fun _ _ _ h => h) (by rfl) (by assumption) (v := ?_) ?_ ?_
        rotate_left
        · intro w hSw; (try dsimp only at hSw); go_simp; (try with_reducible rfl)
        try simp only [Act.put, List.setIfInBounds_toArray, List.set_cons_zero, List.set_cons_succ]
        refine wpAnyH_ready (rs := [11]) (by kernel_rfl) (by simp) ?_
        refine AllReadyH.cons (o := _) rfl (fun K hK => ?_) AllReadyH.nil
        go_simp
        (try go_wp2_with fail)
        have hFz : Fr [] v5 (v5.alloc (.cells #[.int .u8 m1, .int .u8 m2, .int .u8 m3, .int .u8 m4, .int .u8 m5, .int .u8 m6, .string (B nm), .string (B sec), .slice none 0 0, .int .i64 most, .map (some xa), .map (some xb), .int .u16 0, .slice none 0 0] 85 (0, 0))) := (Fr.refl _ _).alloc _
        have hFw := hHeld.2.trans hFz
        have HZ : Hid (NewC w ⟨m1, m2, m3, m4, m5, m6⟩ nm sec most (.returned (.tuple #[.pointer (some ⟨v5.heap.size, 0, none⟩), .int .i64 0])) (v5.alloc (.cells #[.int .u8 m1, .int .u8 m2, .int .u8 m3, .int .u8 m4, .int .u8 m5, .int .u8 m6, .string (B nm), .string (B sec), .slice none 0 0, .int .i64 most, .map (some xa), .map (some xb), .int .u16 0, .slice none 0 0] 85 (0, 0)))) := Lib.hid (newC_of (HF3.out.trans hHeld.2) hMa hMb hNe hXa hXb (Blk.new _ _ _))
        refine hK.out _ _ ?_ (fun hHeld1 => ?_)
        · (try dsimp only); exact HX.out _ hFw
        clear hK K hFz hFw hMa hMb hNe hXa hXb
        try simp only [Act.put, List.setIfInBounds_toArray, List.set_cons_zero, List.set_cons_succ]
        refine take_yes 12 10 rfl rfl (by kernel_rfl) (by kernel_rfl) (by kernel_rfl) (fun _ _ _ h => h) (by rfl) (by assumption) (v := ?_) ?_ ?_
        rotate_left
        · intro w hSw; (try dsimp only at hSw); go_simp; (try with_reducible rfl)
        try simp only [Act.put, List.setIfInBounds_toArray, List.set_cons_zero, List.set_cons_succ]
        refine take_yes 13 11 rfl rfl (by kernel_rfl) (by kernel_rfl) (by kernel_rfl) (fun _ _ _ h => h) (by rfl) (by assumption) (v := ?_) ?_ ?_
        rotate_left
        · intro w hSw; (try dsimp only at hSw); go_simp; (try with_reducible rfl)
        try simp only [Act.put, List.setIfInBounds_toArray, List.set_cons_zero, List.set_cons_succ]
        refine wpAnyH_done (by kernel_rfl) ?_ _
        clear HX
        go_wp2_with fail
        go_ret2
        exact HQQ.out _ _ HZ.out
      refine AllReadyH.cons (o := _) rfl (fun K hK => ?_) AllReadyH.nil
      go_simp
      (try go_wp2_with fail)
      have hFx : Fr [] v3 (v3.alloc (.map #[] 0)) := (Fr.refl _ _).alloc _
      have hMa : MapIs idE ptrV (v3.alloc (.map #[] 0)) v3.heap.size [] := MapIs.new _
      have hXa : w.heap.size ≤ v3.heap.size := Nat.le_trans HF3.out.size hHeld.2.size
      have hNe : v3.heap.size ≠ xb := by have := hMb.lt; omega
      replace hMb := hMb.fr hFx (by simp)
      obtain ⟨v4, hV⟩ : ∃ V, v3.alloc (.map #[] 0) = V := ⟨_, rfl⟩
      obtain ⟨xa, hx⟩ : ∃ b, v3.heap.size = b := ⟨_, rfl⟩
      rw [hV] at hFx hMa ⊢ hMb
      rw [hx] at hMa hXa ⊢ hNe
      refine hK.out _ _ ?_ (fun hHeld1 => ?_)
      · (try dsimp only); exact HX.out _ (hHeld.2.trans hFx)
      clear hK K hV hx hFx
      replace hHeld := hHeld1
      clear hHeld1
      try simp only [Act.put, List.setIfInBounds_toArray, List.set_cons_zero, List.set_cons_succ]
      refine wpAnyH_ready (rs := [6]) (by kernel_rfl) (by simp) ?_
      refine AllReadyH.cons (o := _) rfl (fun K hK => ?_) AllReadyH.nil
      go_simp
      refine (CN.out _).mono ?_
      rintro r v5 ⟨rfl, hF5⟩
      (try go_wp2_with fail)
      refine hK.out _ _ ?_ (fun hHeld1 => ?_)
      · (try dsimp only); exact HX.out _ (hHeld.2.trans hF5)
      clear hK K
      try simp only [Act.put, List.setIfInBounds_toArray, List.set_cons_zero, List.set_cons_succ]
      replace hMa := hMa.fr hF5 (by simp)
      replace hMb := hMb.fr hF5 (by simp)
      replace hHeld := hHeld1
      clear hF5 hHeld1
      refine take_yes 10 48 rfl rfl (by kernel_rfl) (by kernel_rfl) (by kernel_rfl) (fun _ _ _ h => h) (by rfl) (by assumption) (v := ?_) ?_ ?_
      rotate_left
      · intro w hSw; (try dsimp only at hSw); go_simp; (try with_reducible rfl)
      try simp only [Act.put, List.setIfInBounds_toArray, List.set_cons_zero, List.set_cons_succ]
      refine wpAnyH_ready (rs := [11]) (by kernel_rfl) (by simp) ?_
      refine AllReadyH.cons (o := _) rfl (fun K hK => ?_) AllReadyH.nil
      go_simp
      (try go_wp2_with fail)
      have hFz : Fr [] v5 (v5.alloc (.cells #[.int .u8 m1, .int .u8 m2, .int .u8 m3, .int .u8 m4, .int .u8 m5, .int .u8 m6, .string (B nm), .string (B sec), .slice none 0 0, .int .i64 most, .map (some xa), .map (some xb), .int .u16 0, .slice none 0 0] 85 (0, 0))) := (Fr.refl _ _).alloc _
      have hFw := hHeld.2.trans hFz
      have HZ : Hid (NewC w ⟨m1, m2, m3, m4, m5, m6⟩ nm sec most (.returned (.tuple #[.pointer (some ⟨v5.heap.size, 0, none⟩), .int .i64 0])) (v5.alloc (.cells #[.int .u8 m1, .int .u8 m2, .int .u8 m3, .int .u8 m4, .int .u8 m5, .int .u8 m6, .string (B nm), .string (B sec), .slice none 0 0, .int .i64 most, .map (some xa), .map (some xb), .int .u16 0, .slice none 0 0] 85 (0, 0)))) := Lib.hid (newC_of (HF3.out.trans hHeld.2) hMa hMb hNe hXa hXb (Blk.new _ _ _))
      refine hK.out _ _ ?_ (fun hHeld1 => ?_)
      · (try dsimp only); exact HX.out _ hFw
      clear hK K hFz hFw hMa hMb hNe hXa hXb
      try simp only [Act.put, List.setIfInBounds_toArray, List.set_cons_zero, List.set_cons_succ]
      refine take_yes 12 10 rfl rfl (by kernel_rfl) (by kernel_rfl) (by kernel_rfl) (fun _ _ _ h => h) (by rfl) (by assumption) (v := ?_) ?_ ?_
      rotate_left
      · intro w hSw; (try dsimp only at hSw); go_simp; (try with_reducible rfl)
      try simp only [Act.put, List.setIfInBounds_toArray, List.set_cons_zero, List.set_cons_succ]
      refine take_yes 13 11 rfl rfl (by kernel_rfl) (by kernel_rfl) (by kernel_rfl) (fun _ _ _ h => h) (by rfl) (by assumption) (v := ?_) ?_ ?_
      rotate_left
      · intro w hSw; (try dsimp only at hSw); go_simp; (try with_reducible rfl)
      try simp only [Act.put, List.setIfInBounds_toArray, List.set_cons_zero, List.set_cons_succ]
      refine wpAnyH_done (by kernel_rfl) ?_ _
      clear HX
      go_wp2_with fail
      go_ret2
      exact HQQ.out _ _ HZ.out
    refine AllReadyH.cons (o := _) rfl (fun K hK => ?_) AllReadyH.nil
    go_simp
    (try go_wp2_with fail)
    have hFx : Fr [] v2 (v2.alloc (.map #[] 0)) := (Fr.refl _ _).alloc _
    have hMa : MapIs idE ptrV (v2.alloc (.map #[] 0)) v2.heap.size [] := MapIs.new _
    have hXa : w.heap.size ≤ v2.heap.size := Nat.le_trans HF3.out.size hHeld.2.size
    have hNe : v2.heap.size ≠ xb := by have := hMb.lt; omega
    replace hMb := hMb.fr hFx (by simp)
    obtain ⟨v3, hV⟩ : ∃ V, v2.alloc (.map #[] 0) = V := ⟨_, rfl⟩
    obtain ⟨xa, hx⟩ : ∃ b, v2.heap.size = b := ⟨_, rfl⟩
    rw [hV] at hFx hMa ⊢ hMb
    rw [hx] at hMa hXa ⊢ hNe
    refine hK.out _ _ ?_ (fun hHeld1 => ?_)
    · (try dsimp only); exact HX.out _ (hHeld.2.trans hFx)
    clear hK K hV hx hFx
    replace hHeld := hHeld1
    clear hHeld1
    try simp only [Act.put, List.setIfInBounds_toArray, List.set_cons_zero, List.set_cons_succ]
    refine wpAnyH_ready (rs := [4]) (by kernel_rfl) (by simp) ?_
    refine AllReadyH.cons (o := _) rfl (fun K hK => ?_) AllReadyH.nil
    go_simp
    refine (T2.out _).mono ?_
    rintro r v4 ⟨rfl, hF5⟩
    (try go_wp2_with fail)
    refine hK.out _ _ ?_ (fun hHeld1 => ?_)
    · (try dsimp only); exact HX.out _ (hHeld.2.trans hF5)
    clear hK K
    try simp only [Act.put, List.setIfInBounds_toArray, List.set_cons_zero, List.set_cons_succ]
    replace hMa := hMa.fr hF5 (by simp)
    replace hMb := hMb.fr hF5 (by simp)
    replace hHeld := hHeld1
    clear hF5 hHeld1
    refine wpAnyH_ready (rs := [6]) (by kernel_rfl) (by simp) ?_
    refine AllReadyH.cons (o := _) rfl (fun K hK => ?_) AllReadyH.nil
    go_simp
    refine (CN.out _).mono ?_
    rintro r v5 ⟨rfl, hF5⟩
    (try go_wp2_with fail)
    refine hK.out _ _ ?_ (fun hHeld1 => ?_)
    · (try dsimp only); exact HX.out _ (hHeld.2.trans hF5)
    clear hK K
    try simp only [Act.put, List.setIfInBounds_toArray, List.set_cons_zero, List.set_cons_succ]
    replace hMa := hMa.fr hF5 (by simp)
    replace hMb := hMb.fr hF5 (by simp)
    replace hHeld := hHeld1
    clear hF5 hHeld1
    refine take_yes 10 48 rfl rfl (by kernel_rfl) (by kernel_rfl) (by kernel_rfl) (fun _ _ _ h => h) (by rfl) (by assumption) (v := ?_) ?_ ?_
    rotate_left
    · intro w hSw; (try dsimp only at hSw); go_simp; (try with_reducible rfl)
    try simp only [Act.put, List.setIfInBounds_toArray, List.set_cons_zero, List.set_cons_succ]
    refine wpAnyH_ready (rs := [11]) (by kernel_rfl) (by simp) ?_
    refine AllReadyH.cons (o := _) rfl (fun K hK => ?_) AllReadyH.nil
    go_simp
    (try go_wp2_with fail)
    have hFz : Fr [] v5 (v5.alloc (.cells #[.int .u8 m1, .int .u8 m2, .int .u8 m3, .int .u8 m4, .int .u8 m5, .int .u8 m6, .string (B nm), .string (B sec), .slice none 0 0, .int .i64 most, .map (some xa), .map (some xb), .int .u16 0, .slice none 0 0] 85 (0, 0))) := (Fr.refl _ _).alloc _
    have hFw := hHeld.2.trans hFz
    have HZ : Hid (NewC w ⟨m1, m2, m3, m4, m5, m6⟩ nm sec most (.returned (.tuple #[.pointer (some ⟨v5.heap.size, 0, none⟩), .int .i64 0])) (v5.alloc (.cells #[.int .u8 m1, .int .u8 m2, .int .u8 m3, .int .u8 m4, .int .u8 m5, .int .u8 m6, .string (B nm), .string (B sec), .slice none 0 0, .int .i64 most, .map (some xa), .map (some xb), .int .u16 0, .slice none 0 0] 85 (0, 0)))) := Lib.hid (newC_of (HF3.out.trans hHeld.2) hMa hMb hNe hXa hXb (Blk.new _ _ _))
    refine hK.out _ _ ?_ (fun hHeld1 => ?_)
    · (try dsimp only); exact HX.out _ hFw
    clear hK K hFz hFw hMa hMb hNe hXa hXb
    try simp only [Act.put, List.setIfInBounds_toArray, List.set_cons_zero, List.set_cons_succ]
    refine take_yes 12 10 rfl rfl (by kernel_rfl) (by kernel_rfl) (by kernel_rfl) (fun _ _ _ h => h) (by rfl) (by assumption) (v := ?_) ?_ ?_
    rotate_left
    · intro w hSw; (try dsimp only at hSw); go_simp; (try with_reducible rfl)
    try simp only [Act.put, List.setIfInBounds_toArray, List.set_cons_zero, List.set_cons_succ]
    refine take_yes 13 11 rfl rfl (by kernel_rfl) (by kernel_rfl) (by kernel_rfl) (fun _ _ _ h => h) (by rfl) (by assumption) (v := ?_) ?_ ?_
    rotate_left
    · intro w hSw; (try dsimp only at hSw); go_simp; (try with_reducible rfl)
    try simp only [Act.put, List.setIfInBounds_toArray, List.set_cons_zero, List.set_cons_succ]
    refine wpAnyH_done (by kernel_rfl) ?_ _
    clear HX
    go_wp2_with fail
    go_ret2
    exact HQQ.out _ _ HZ.out
  refine AllReadyH.cons (o := _) rfl (fun K hK => ?_) ?_
  · go_simp
    (try go_wp2_with fail)
    have hFx : Fr [] v0 (v0.alloc (.map #[] 0)) := (Fr.refl _ _).alloc _
    have hMa : MapIs idE ptrV (v0.alloc (.map #[] 0)) v0.heap.size [] := MapIs.new _
    have hXa : w.heap.size ≤ v0.heap.size := Nat.le_trans HF3.out.size hHeld.2.size
    obtain ⟨v1, hV⟩ : ∃ V, v0.alloc (.map #[] 0) = V := ⟨_, rfl⟩
    obtain ⟨xa, hx⟩ : ∃ b, v0.heap.size = b := ⟨_, rfl⟩
    rw [hV] at hFx hMa ⊢
    rw [hx] at hMa hXa ⊢
    refine hK.out _ _ ?_ (fun hHeld1 => ?_)
    · (try dsimp only); exact HX.out _ (hHeld.2.trans hFx)
    clear hK K hV hx hFx
    replace hHeld := hHeld1
    clear hHeld1
    try simp only [Act.put, List.setIfInBounds_toArray, List.set_cons_zero, List.set_cons_succ]
    refine wpAnyH_ready (rs := [2, 9]) (by kernel_rfl) (by simp) ?_
    refine AllReadyH.cons (o := _) rfl (fun K hK => ?_) ?_
    · go_simp
      refine (T1.out _).mono ?_
      rintro r v2 ⟨rfl, hF5⟩
      (try go_wp2_with fail)
      refine hK.out _ _ ?_ (fun hHeld1 => ?_)
      · (try dsimp only); exact HX.out _ (hHeld.2.trans hF5)
      clear hK K
      try simp only [Act.put, List.setIfInBounds_toArray, List.set_cons_zero, List.set_cons_succ]
      replace hMa := hMa.fr hF5 (by simp)
      replace hHeld := hHeld1
      clear hF5 hHeld1
      refine wpAnyH_ready (rs := [4, 9]) (by kernel_rfl) (by simp) ?_
      refine AllReadyH.cons (o := _) rfl (fun K hK => ?_) ?_
      · go_simp
        refine (T2.out _).mono ?_
        rintro r v3 ⟨rfl, hF5⟩
        (try go_wp2_with fail)
        refine hK.out _ _ ?_ (fun hHeld1 => ?_)
        · (try dsimp only); exact HX.out _ (hHeld.2.trans hF5)
        clear hK K
        try simp only [Act.put, List.setIfInBounds_toArray, List.set_cons_zero, List.set_cons_succ]
        replace hMa := hMa.fr hF5 (by simp)
        replace hHeld := hHeld1
        clear hF5 hHeld1
        refine wpAnyH_ready (rs := [6, 9]) (by kernel_rfl) (by simp) ?_
        refine AllReadyH.cons (o := _) rfl (fun K hK => ?_) ?_
        · go_simp
          refine (CN.out _).mono ?_
          rintro r v4 ⟨rfl, hF5⟩
          (try go_wp2_with fail)
          refine hK.out _ _ ?_ (fun hHeld1 => ?_)
          · (try dsimp only); exact HX.out _ (hHeld.2.trans hF5)
          clear hK K
          try simp only [Act.put, List.setIfInBounds_toArray, List.set_cons_zero, List.set_cons_succ]
          replace hMa := hMa.fr hF5 (by simp)
          replace hHeld := hHeld1
          clear hF5 hHeld1
          refine wpAnyH_ready (rs := [9]) (by kernel_rfl) (by simp) ?_
          refine AllReadyH.cons (o := _) rfl (fun K hK => ?_) AllReadyH.nil
          go_simp
          (try go_wp2_with fail)
          have hFx : Fr [] v4 (v4.alloc (.map #[] 0)) := (Fr.refl _ _).alloc _
          have hMb : MapIs intE unitV (v4.alloc (.map #[] 0)) v4.heap.size [] := MapIs.new _
          have hXb : w.heap.size ≤ v4.heap.size := Nat.le_trans HF3.out.size hHeld.2.size
          have hNe : xa ≠ v4.heap.size := by have := hMa.lt; omega
          replace hMa := hMa.fr hFx (by simp)
          obtain ⟨v5, hV⟩ : ∃ V, v4.alloc (.map #[] 0) = V := ⟨_, rfl⟩
          obtain ⟨xb, hx⟩ : ∃ b, v4.heap.size = b := ⟨_, rfl⟩
          rw [hV] at hFx hMb ⊢ hMa
          rw [hx] at hMb hXb ⊢ hNe
          refine hK.out _ _ ?_ (fun hHeld1 => ?_)
          · (try dsimp only); exact HX.out _ (hHeld.2.trans hFx)
          clear hK K hV hx hFx
          replace hHeld := hHeld1
          clear hHeld1
          try simp only [Act.put, List.setIfInBounds_toArray, List.set_cons_zero, List.set_cons_succ]
          refine take_yes 10 48 rfl rfl (by kernel_rfl) (by kernel_rfl) (by kernel_rfl) (fun _ _ _ h => h) (by rfl) (by assumption) (v := ?_) ?_ ?_
          rotate_left
          · intro w hSw; (try dsimp only at hSw); go_simp; (try with_reducible rfl)
          try simp only [Act.put, List.setIfInBounds_toArray, List.set_cons_zero, List.set_cons_succ]
          refine wpAnyH_ready (rs := [11]) (by kernel_rfl) (by simp) ?_
          refine AllReadyH.cons (o := _) rfl (fun K hK => ?_) AllReadyH.nil
          go_simp
          (try go_wp2_with fail)
          have hFz : Fr [] v5 (v5.alloc (.cells #[.int .u8 m1, .int .u8 m2, .int .u8 m3, .int .u8 m4, .int .u8 m5, .int .u8 m6, .string (B nm), .string (B sec), .slice none 0 0, .int .i64 most, .map (some xa), .map (some xb), .int .u16 0, .slice none 0 0] 85 (0, 0))) := (Fr.refl _ _).alloc _
          have hFw := hHeld.2.trans hFz
          have HZ : Hid (NewC w ⟨m1, m2, m3, m4, m5, m6⟩ nm sec most (.returned (.tuple #[.pointer (some ⟨v5.heap.size, 0, none⟩), .int .i64 0])) (v5.alloc (.cells #[.int .u8 m1, .int .u8 m2, .int .u8 m3, .int .u8 m4, .int .u8 m5, .int .u8 m6, .string (B nm), .string (B sec), .slice none 0 0, .int .i64 most, .map (some xa), .map (some xb), .int .u16 0, .slice none 0 0] 85 (0, 0)))) := Lib.hid (newC_of (HF3.out.trans hHeld.2) hMa hMb hNe hXa hXb (Blk.new _ _ _))
          refine hK.out _ _ ?_ (fun hHeld1 => ?_)
          · (try dsimp only); exact HX.out _ hFw
          clear hK K hFz hFw hMa hMb hNe hXa hXb
          try simp only [Act.put, List.setIfInBounds_toArray, List.set_cons_zero, List.set_cons_succ]
          refine take_yes 12 10 rfl rfl (by kernel_rfl) (by kernel_rfl) (by kernel_rfl) (fun _ _ _ h => h) (by rfl) (by assumption) (v := ?_) ?_ ?_
          rotate_left
          · intro w hSw; (try dsimp only at hSw); go_simp; (try with_reducible rfl)
          try simp only [Act.put, List.setIfInBounds_toArray, List.set_cons_zero, List.set_cons_succ]
          refine take_yes 13 11 rfl rfl (by kernel_rfl) (by kernel_rfl) (by kernel_rfl) (fun _ _ _ h => h) (by rfl) (by assumption) (v := ?_) ?_ ?_
          rotate_left
          · intro w hSw; (try dsimp only at hSw); go_simp; (try with_reducible rfl)
          try simp only [Act.put, List.setIfInBounds_toArray, List.set_cons_zero, List.set_cons_succ]
          refine wpAnyH_done (by kernel_rfl) ?_ _
          clear HX
          go_wp2_with fail
          go_ret2
          exact HQQ.out _ _ HZ.out
        refine AllReadyH.cons (o := _) rfl (fun K hK => ?_) AllReadyH.nil
        go_simp
        (try go_wp2_with fail)
        have hFx : Fr [] v3 (v3.alloc (.map #[] 0)) := (Fr.refl _ _).alloc _
        have hMb : MapIs intE unitV (v3.alloc (.map #[] 0)) v3.heap.size [] := MapIs.new _
        have hXb : w.heap.size ≤ v3.heap.size := Nat.le_trans HF3.out.size hHeld.2.size
        have hNe : xa ≠ v3.heap.size := by have := hMa.lt; omega
        replace hMa := hMa.fr hFx (by simp)
        obtain ⟨v4, hV⟩ : ∃ V, v3.alloc (.map #[] 0) = V := ⟨_, rfl⟩
        obtain ⟨xb, hx⟩ : ∃ b, v3.heap.size = b := ⟨_, rfl⟩
        rw [hV] at hFx hMb ⊢ hMa
        rw [hx] at hMb hXb ⊢ hNe
        refine hK.out _ _ ?_ (fun hHeld1 => ?_)
        · (try dsimp only); exact HX.out _ (hHeld.2.trans hFx)
        clear hK K hV hx hFx
        replace hHeld := hHeld1
        clear hHeld1
        try simp only [Act.put, List.setIfInBounds_toArray, List.set_cons_zero, List.set_cons_succ]
        refine wpAnyH_ready (rs := [6]) (by kernel_rfl) (by simp) ?_
        refine AllReadyH.cons (o := _) rfl (fun K hK => ?_) AllReadyH.nil
        go_simp
        refine (CN.out _).mono ?_
        rintro r v5 ⟨rfl, hF5⟩
        (try go_wp2_with fail)
        refine hK.out _ _ ?_ (fun hHeld1 => ?_)
        · (try dsimp only); exact HX.out _ (hHeld.2.trans hF5)
        clear hK K
        try simp only [Act.put, List.setIfInBounds_toArray, List.set_cons_zero, List.set_cons_succ]
        replace hMa := hMa.fr hF5 (by simp)
        replace hMb := hMb.fr hF5 (by simp)
        replace hHeld := hHeld1
        clear hF5 hHeld1
        refine take_yes 10 48 rfl rfl (by kernel_rfl) (by kernel_rfl) (by kernel_rfl) (fun _ _ _ h => h) (by rfl) (by assumption) (v := ?_) ?_ ?_
        rotate_left
        · intro w hSw; (try dsimp only at hSw); go_simp; (try with_reducible rfl)
        try simp only [Act.put, List.setIfInBounds_toArray, List.set_cons_zero, List.set_cons_succ]
        refine wpAnyH_ready (rs := [11]) (by kernel_rfl) (by simp) ?_
        refine AllReadyH.cons (o := _) rfl (fun K hK => ?_) AllReadyH.nil
        go_simp
        (try go_wp2_with fail)
        have hFz : Fr [] v5 (v5.alloc (.cells #[.int .u8 m1, .int .u8 m2, .int .u8 m3, .int .u8 m4, .int .u8 m5, .int .u8 m6, .string (B nm), .string (B sec), .slice none 0 0, .int .i64 most, .map (some xa), .map (some xb), .int .u16 0, .slice none 0 0] 85 (0, 0))) := (Fr.refl _ _).alloc _
        have hFw := hHeld.2.trans hFz
        have HZ : Hid (NewC w ⟨m1, m2, m3, m4, m5, m6⟩ nm sec most (.returned (.tuple #[.pointer (some ⟨v5.heap.size, 0, none⟩), .int .i64 0])) (v5.alloc (.cells #[.int .u8 m1, .int .u8 m2, .int .u8 m3, .int .u8 m4, .int .u8 m5, .int .u8 m6, .string (B nm), .string (B sec), .slice none 0 0, .int .i64 most, .map (some xa), .map (some xb), .int .u16 0, .slice none 0 0] 85 (0, 0)))) := Lib.hid (newC_of (HF3.out.trans hHeld.2) hMa hMb hNe hXa hXb (Blk.new _ _ _))
        refine hK.out _ _ ?_ (fun hHeld1 => ?_)
        · (try dsimp only); exact HX.out _ hFw
        clear hK K hFz hFw hMa hMb hNe hXa hXb
        try simp only [Act.put, List.setIfInBounds_toArray, List.set_cons_zero, List.set_cons_succ]
        refine take_yes 12 10 rfl rfl (by kernel_rfl) (by kernel_rfl) (by kernel_rfl) (fun _ _ _ h => h) (by rfl) (by assumption) (v := ?_) ?_ ?_
        rotate_left
        · intro w hSw; (try dsimp only at hSw); go_simp; (try with_reducible rfl)
        try simp only [Act.put, List.setIfInBounds_toArray, List.set_cons_zero, List.set_cons_succ]
        refine take_yes 13 11 rfl rfl (by kernel_rfl) (by kernel_rfl) (by kernel_rfl) (fun _ _ _ h => h) (by rfl) (by assumption) (v := ?_) ?_ ?_
        rotate_left
        · intro w hSw; (try dsimp only at hSw); go_simp; (try with_reducible rfl)
        try simp only [Act.put, List.setIfInBounds_toArray, List.set_cons_zero, List.set_cons_succ]
        refine wpAnyH_done (by kernel_rfl) ?_ _
        clear HX
        go_wp2_with fail
        go_ret2
        exact HQQ.out _ _ HZ.out
      refine AllReadyH.cons (o := _) rfl (fun K hK => ?_) AllReadyH.nil
      go_simp
      (try go_wp2_with fail)
      have hFx : Fr [] v2 (v2.alloc (.map #[] 0)) := (Fr.refl _ _).alloc _
      have hMb : MapIs intE unitV (v2.alloc (.map #[] 0)) v2.heap.size [] := MapIs.new _
      have hXb : w.heap.size ≤ v2.heap.size := Nat.le_trans HF3.out.size hHeld.2.size
      have hNe : xa ≠ v2.heap.size := by have := hMa.lt; omega
      replace hMa := hMa.fr hFx (by simp)
      obtain ⟨v3, hV⟩ : ∃ V, v2.alloc (.map #[] 0) = V := ⟨_, rfl⟩
      obtain ⟨xb, hx⟩ : ∃ b, v2.heap.size = b := ⟨_, rfl⟩
      rw [hV] at hFx hMb ⊢ hMa
      rw [hx] at hMb hXb ⊢ hNe
      refine hK.out _ _ ?_ (fun hHeld1 => ?_)
      · (try dsimp only); exact HX.out _ (hHeld.2.trans hFx)
      clear hK K hV hx hFx
      replace hHeld := hHeld1
      clear hHeld1
      try simp only [Act.put, List.setIfInBounds_toArray, List.set_cons_zero, List.set_cons_succ]
      refine wpAnyH_ready (rs := [4]) (by kernel_rfl) (by simp) ?_
      refine AllReadyH.cons (o := _) rfl (fun K hK => ?_) AllReadyH.nil
      go_simp
      refine (T2.out _).mono ?_
      rintro r v4 ⟨rfl, hF5⟩
      (try go_wp2_with fail)
      refine hK.out _ _ ?_ (fun hHeld1 => ?_)
      · (try dsimp only); exact HX.out _ (hHeld.2.trans hF5)
      clear hK K
      try simp only [Act.put, List.setIfInBounds_toArray, List.set_cons_zero, List.set_cons_succ]
      replace hMa := hMa.fr hF5 (by simp)
      replace hMb := hMb.fr hF5 (by simp)
      replace hHeld := hHeld1
      clear hF5 hHeld1
      refine wpAnyH_ready (rs := [6]) (by kernel_rfl) (by simp) ?_
      refine AllReadyH.cons (o := _) rfl (fun K hK => ?_) AllReadyH.nil
      go_simp
      refine (CN.out _).mono ?_
      rintro r v5 ⟨rfl, hF5⟩
      (try go_wp2_with fail)
      refine hK.out _ _ ?_ (fun hHeld1 => ?_)
      · (try dsimp only); exact HX.out _ (hHeld.2.trans hF5)
      clear hK K
      try simp only [Act.put, List.setIfInBounds_toArray, List.set_cons_zero, List.set_cons_succ]
      replace hMa := hMa.fr hF5 (by simp)
      replace hMb := hMb.fr hF5 (by simp)
      replace hHeld := hHeld1
      clear hF5 hHeld1
      refine take_yes 10 48 rfl rfl (by kernel_rfl) (by kernel_rfl) (by kernel_rfl) (fun _ _ _ h => h) (by rfl) (by assumption) (v := ?_) ?_ ?_
      rotate_left
      · intro w hSw; (try dsimp only at hSw); go_simp; (try with_reducible rfl)
      try simp only [Act.put, List.setIfInBounds_toArray, List.set_cons_zero, List.set_cons_succ]
      refine wpAnyH_ready (rs := [11]) (by kernel_rfl) (by simp) ?_
      refine AllReadyH.cons (o := _) rfl (fun K hK => ?_) AllReadyH.nil
      go_simp
      (try go_wp2_with fail)
      have hFz : Fr [] v5 (v5.alloc (.cells #[.int .u8 m1, .int .u8 m2, .int .u8 m3, .int .u8 m4, .int .u8 m5, .int .u8 m6, .string (B nm), .string (B sec), .slice none 0 0, .int .i64 most, .map (some xa), .map (some xb), .int .u16 0, .slice none 0 0] 85 (0, 0))) := (Fr.refl _ _).alloc _
      have hFw := hHeld.2.trans hFz
      have HZ : Hid (NewC w ⟨m1, m2, m3, m4, m5, m6⟩ nm sec most (.returned (.tuple #[.pointer (some ⟨v5.heap.size, 0, none⟩), .int .i64 0])) (v5.alloc (.cells #[.int .u8 m1, .int .u8 m2, .int .u8 m3, .int .u8 m4, .int .u8 m5, .int .u8 m6, .string (B nm), .string (B sec), .slice none 0 0, .int .i64 most, .map (some xa), .map (some xb), .int .u16 0, .slice none 0 0] 85 (0, 0)))) := Lib.hid (newC_of (HF3.out.trans hHeld.2) hMa hMb hNe hXa hXb (Blk.new _ _ _))
      refine hK.out _ _ ?_ (fun hHeld1 => ?_)
      · (try dsimp only); exact HX.out _ hFw
      clear hK K hFz hFw hMa hMb hNe hXa hXb
      try simp only [Act.put, List.setIfInBounds_toArray, List.set_cons_zero, List.set_cons_succ]
      refine take_yes 12 10 rfl rfl (by kernel_rfl) (by kernel_rfl) (by kernel_rfl) (fun _ _ _ h => h) (by rfl) (by assumption) (v := ?_) ?_ ?_
      rotate_left
      · intro w hSw; (try dsimp only at hSw); go_simp; (try with_reducible rfl)
      try simp only [Act.put, List.setIfInBounds_toArray, List.set_cons_zero, List.set_cons_succ]
      refine take_yes 13 11 rfl rfl (by kernel_rfl) (by kernel_rfl) (by kernel_rfl) (fun _ _ _ h => h) (by rfl) (by assumption) (v := ?_) ?_ ?_
      rotate_left
      · intro w hSw; (try dsimp only at hSw); go_simp; (try with_reducible rfl)
      try simp only [Act.put, List.setIfInBounds_toArray, List.set_cons_zero, List.set_cons_succ]
      refine wpAnyH_done (by kernel_rfl) ?_ _
      clear HX
      go_wp2_with fail
      go_ret2
      exact HQQ.out _ _ HZ.out
    refine AllReadyH.cons (o := _) rfl (fun K hK => ?_) AllReadyH.nil
    go_simp
    (try go_wp2_with fail)
    have hFx : Fr [] v1 (v1.alloc (.map #[] 0)) := (Fr.refl _ _).alloc _
    have hMb : MapIs intE unitV (v1.alloc (.map #[] 0)) v1.heap.size [] := MapIs.new _
    have hXb : w.heap.size ≤ v1.heap.size := Nat.le_trans HF3.out.size hHeld.2.size
    have hNe : xa ≠ v1.heap.size := by have := hMa.lt; omega
    replace hMa := hMa.fr hFx (by simp)
    obtain ⟨v2, hV⟩ : ∃ V, v1.alloc (.map #[] 0) = V := ⟨_, rfl⟩
    obtain ⟨xb, hx⟩ : ∃ b, v1.heap.size = b := ⟨_, rfl⟩
    rw [hV] at hFx hMb ⊢ hMa
    rw [hx] at hMb hXb ⊢ hNe
    refine hK.out _ _ ?_ (fun hHeld1 => ?_)
    · (try dsimp only); exact HX.out _ (hHeld.2.trans hFx)
    clear hK K hV hx hFx
    replace hHeld := hHeld1
    clear hHeld1
    try simp only [Act.put, List.setIfInBounds_toArray, List.set_cons_zero, List.set_cons_succ]
    refine wpAnyH_ready (rs := [2]) (by kernel_rfl) (by simp) ?_
    refine AllReadyH.cons (o := _) rfl (fun K hK => ?_) AllReadyH.nil
    go_simp
    refine (T1.out _).mono ?_
    rintro r v3 ⟨rfl, hF5⟩
    (try go_wp2_with fail)
    refine hK.out _ _ ?_ (fun hHeld1 => ?_)
    · (try dsimp only); exact HX.out _ (hHeld.2.trans hF5)
    clear hK K
    try simp only [Act.put, List.setIfInBounds_toArray, List.set_cons_zero, List.set_cons_succ]
    replace hMa := hMa.fr hF5 (by simp)
    replace hMb := hMb.fr hF5 (by simp)
    replace hHeld := hHeld1
    clear hF5 hHeld1
    refine wpAnyH_ready (rs := [4]) (by kernel_rfl) (by simp) ?_
    refine AllReadyH.cons (o := _) rfl (fun K hK => ?_) AllReadyH.nil
    go_simp
    refine (T2.out _).mono ?_
    rintro r v4 ⟨rfl, hF5⟩
    (try go_wp2_with fail)
    refine hK.out _ _ ?_ (fun hHeld1 => ?_)
    · (try dsimp only); exact HX.out _ (hHeld.2.trans hF5)
    clear hK K
    try simp only [Act.put, List.setIfInBounds_toArray, List.set_cons_zero, List.set_cons_succ]
    replace hMa := hMa.fr hF5 (by simp)
    replace hMb := hMb.fr hF5 (by simp)
    replace hHeld := hHeld1
    clear hF5 hHeld1
    refine wpAnyH_ready (rs := [6]) (by kernel_rfl) (by simp) ?_
    refine AllReadyH.cons (o := _) rfl (fun K hK => ?_) AllReadyH.nil
    go_simp
    refine (CN.out _).mono ?_
    rintro r v5 ⟨rfl, hF5⟩
    (try go_wp2_with fail)
    refine hK.out _ _ ?_ (fun hHeld1 => ?_)
    · (try dsimp only); exact HX.out _ (hHeld.2.trans hF5)
    clear hK K
    try simp only [Act.put, List.setIfInBounds_toArray, List.set_cons_zero, List.set_cons_succ]
    replace hMa := hMa.fr hF5 (by simp)
    replace hMb := hMb.fr hF5 (by simp)
    replace hHeld := hHeld1
    clear hF5 hHeld1
    refine take_yes 10 48 rfl rfl (by kernel_rfl) (by kernel_rfl) (by kernel_rfl) (fun _ _ _ h => h) (by rfl) (by assumption) (v := ?_) ?_ ?_
    rotate_left
    · intro w hSw; (try dsimp only at hSw); go_simp; (try with_reducible rfl)
    try simp only [Act.put, List.setIfInBounds_toArray, List.set_cons_zero, List.set_cons_succ]
    refine wpAnyH_ready (rs := [11]) (by kernel_rfl) (by simp) ?_
    refine AllReadyH.cons (o := _) rfl (fun K hK => ?_) AllReadyH.nil
    go_simp
    (try go_wp2_with fail)
    have hFz : Fr [] v5 (v5.alloc (.cells #[.int .u8 m1, .int .u8 m2, .int .u8 m3, .int .u8 m4, .int .u8 m5, .int .u8 m6, .string (B nm), .string (B sec), .slice none 0 0, .int .i64 most, .map (some xa), .map (some xb), .int .u16 0, .slice none 0 0] 85 (0, 0))) := (Fr.refl _ _).alloc _
    have hFw := hHeld.2.trans hFz
    have HZ : Hid (NewC w ⟨m1, m2, m3, m4, m5, m6⟩ nm sec most (.returned (.tuple #[.pointer (some ⟨v5.heap.size, 0, none⟩), .int .i64 0])) (v5.alloc (.cells #[.int .u8 m1, .int .u8 m2, .int .u8 m3, .int .u8 m4, .int .u8 m5, .int .u8 m6, .string (B nm), .string (B sec), .slice none 0 0, .int .i64 most, .map (some xa), .map (some xb), .int .u16 0, .slice none 0 0] 85 (0, 0)))) := Lib.hid (newC_of (HF3.out.trans hHeld.2) hMa hMb hNe hXa hXb (Blk.new _ _ _))
    refine hK.out _ _ ?_ (fun hHeld1 => ?_)
    · (try dsimp only); exact HX.out _ hFw
    clear hK K hFz hFw hMa hMb hNe hXa hXb
    try simp only [Act.put, List.setIfInBounds_toArray, List.set_cons_zero, List.set_cons_succ]
    refine take_yes 12 10 rfl rfl (by kernel_rfl) (by kernel_rfl) (by kernel_rfl) (fun _ _ _ h => h) (by rfl) (by assumption) (v := ?_) ?_ ?_
    rotate_left
    · intro w hSw; (try dsimp only at hSw); go_simp; (try with_reducible rfl)
    try simp only [Act.put, List.setIfInBounds_toArray, List.set_cons_zero, List.set_cons_succ]
    refine take_yes 13 11 rfl rfl (by kernel_rfl) (by kernel_rfl) (by kernel_rfl) (fun _ _ _ h => h) (by rfl) (by assumption) (v := ?_) ?_ ?_
    rotate_left
    · intro w hSw; (try dsimp only at hSw); go_simp; (try with_reducible rfl)
    try simp only [Act.put, List.setIfInBounds_toArray, List.set_cons_zero, List.set_cons_succ]
    refine wpAnyH_done (by kernel_rfl) ?_ _
    clear HX
    go_wp2_with fail
    go_ret2
    exact HQQ.out _ _ HZ.out
  refine AllReadyH.cons (o := _) rfl (fun K hK => ?_) AllReadyH.nil
  go_simp
  (try go_wp2_with fail)
  have hFx : Fr [] v0 (v0.alloc (.map #[] 0)) := (Fr.refl _ _).alloc _
  have hMb : MapIs intE unitV (v0.alloc (.map #[] 0)) v0.heap.size [] := MapIs.new _
  have hXb : w.heap.size ≤ v0.heap.size := Nat.le_trans HF3.out.size hHeld.2.size
  obtain ⟨v1, hV⟩ : ∃ V, v0.alloc (.map #[] 0) = V := ⟨_, rfl⟩
  obtain ⟨xb, hx⟩ : ∃ b, v0.heap.size = b := ⟨_, rfl⟩
  rw [hV] at hFx hMb ⊢
  rw [hx] at hMb hXb ⊢
  refine hK.out _ _ ?_ (fun hHeld1 => ?_)
  · (try dsimp only); exact HX.out _ (hHeld.2.trans hFx)
  clear hK K hV hx hFx
  replace hHeld := hHeld1
  clear hHeld1
  try simp only [Act.put, List.setIfInBounds_toArray, List.set_cons_zero, List.set_cons_succ]
  refine wpAnyH_ready (rs := [2, 8]) (by kernel_rfl) (by simp) ?_
  refine AllReadyH.cons (o := _) rfl (fun K hK => ?_) ?_
  · go_simp
    refine (T1.out _).mono ?_
    rintro r v2 ⟨rfl, hF5⟩
    (try go_wp2_with fail)
    refine hK.out _ _ ?_ (fun hHeld1 => ?_)
    · (try dsimp only); exact HX.out _ (hHeld.2.trans hF5)
    clear hK K
    try simp only [Act.put, List.setIfInBounds_toArray, List.set_cons_zero, List.set_cons_succ]
    replace hMb := hMb.fr hF5 (by simp)
    replace hHeld := hHeld1
    clear hF5 hHeld1
    refine wpAnyH_ready (rs := [4, 8]) (by kernel_rfl) (by simp) ?_
    refine AllReadyH.cons (o := _) rfl (fun K hK => ?_) ?_
    · go_simp
      refine (T2.out _).mono ?_
      rintro r v3 ⟨rfl, hF5⟩
      (try go_wp2_with fail)
      refine hK.out _ _ ?_ (fun hHeld1 => ?_)
      · (try dsimp only); exact HX.out _ (hHeld.2.trans hF5)
      clear hK K
      try simp only [Act.put, List.setIfInBounds_toArray, List.set_cons_zero, List.set_cons_succ]
      replace hMb := hMb.fr hF5 (by simp)
      replace hHeld := hHeld1
      clear hF5 hHeld1
      refine wpAnyH_ready (rs := [6, 8]) (by kernel_rfl) (by simp) ?_
      refine AllReadyH.cons (o := _) rfl (fun K hK => ?_) ?_
      · go_simp
        refine (CN.out _).mono ?_
        rintro r v4 ⟨rfl, hF5⟩
        (try go_wp2_with fail)
        refine hK.out _ _ ?_ (fun hHeld1 => ?_)
        · (try dsimp only); exact HX.out _ (hHeld.2.trans hF5)
        clear hK K
        try simp only [Act.put, List.setIfInBounds_toArray, List.set_cons_zero, List.set_cons_succ]
        replace hMb := hMb.fr hF5 (by simp)
        replace hHeld := hHeld1
        clear hF5 hHeld1
        refine wpAnyH_ready (rs := [8]) (by kernel_rfl) (by simp) ?_
        refine AllReadyH.cons (o := _) rfl (fun K hK => ?_) AllReadyH.nil
        go_simp
        (try go_wp2_with fail)
        have hFx : Fr [] v4 (v4.alloc (.map #[] 0)) := (Fr.refl _ _).alloc _
        have hMa : MapIs idE ptrV (v4.alloc (.map #[] 0)) v4.heap.size [] := MapIs.new _
        have hXa : w.heap.size ≤ v4.heap.size := Nat.le_trans HF3.out.size hHeld.2.size
        have hNe : v4.heap.size ≠ xb := by have := hMb.lt; omega
        replace hMb := hMb.fr hFx (by simp)
        obtain ⟨v5, hV⟩ : ∃ V, v4.alloc (.map #[] 0) = V := ⟨_, rfl⟩
        obtain ⟨xa, hx⟩ : ∃ b, v4.heap.size = b := ⟨_, rfl⟩
        rw [hV] at hFx hMa ⊢ hMb
        rw [hx] at hMa hXa ⊢ hNe
        refine hK.out _ _ ?_ (fun hHeld1 => ?_)
        · (try dsimp only); exact HX.out _ (hHeld.2.trans hFx)
        clear hK K hV hx hFx
        replace hHeld := hHeld1
        clear hHeld1
        try simp only [Act.put, List.setIfInBounds_toArray, List.set_cons_zero, List.set_cons_succ]
        refine take_yes 10 48 rfl rfl (by kernel_rfl) (by kernel_rfl) (by kernel_rfl) (fun _ _ _ h => h) (by rfl) (by assumption) (v := ?_) ?_ ?_
        rotate_left
        · intro w hSw; (try dsimp only at hSw); go_simp; (try with_reducible rfl)
        try simp only [Act.put, List.setIfInBounds_toArray, List.set_cons_zero, List.set_cons_succ]
        refine wpAnyH_ready (rs := [11]) (by kernel_rfl) (by simp) ?_
        refine AllReadyH.cons (o := _) rfl (fun K hK => ?_) AllReadyH.nil
        go_simp
        (try go_wp2_with fail)
        have hFz : Fr [] v5 (v5.alloc (.cells #[.int .u8 m1, .int .u8 m2, .int .u8 m3, .int .u8 m4, .int .u8 m5, .int .u8 m6, .string (B nm), .string (B sec), .slice none 0 0, .int .i64 most, .map (some xa), .map (some xb), .int .u16 0, .slice none 0 0] 85 (0, 0))) := (Fr.refl _ _).alloc _
        have hFw := hHeld.2.trans hFz
        have HZ : Hid (NewC w ⟨m1, m2, m3, m4, m5, m6⟩ nm sec most (.returned (.tuple #[.pointer (some ⟨v5.heap.size, 0, none⟩), .int .i64 0])) (v5.alloc (.cells #[.int .u8 m1, .int .u8 m2, .int .u8 m3, .int .u8 m4, .int .u8 m5, .int .u8 m6, .string (B nm), .string (B sec), .slice none 0 0, .int .i64 most, .map (some xa), .map (some xb), .int .u16 0, .slice none 0 0] 85 (0, 0)))) := Lib.hid (newC_of (HF3.out.trans hHeld.2) hMa hMb hNe hXa hXb (Blk.new _ _ _))
        refine hK.out _ _ ?_ (fun hHeld1 => ?_)
        · (try dsimp only); exact HX.out _ hFw
        clear hK K hFz hFw hMa hMb hNe hXa hXb
        try simp only [Act.put, List.setIfInBounds_toArray, List.set_cons_zero, List.set_cons_succ]
        refine take_yes 12 10 rfl rfl (by kernel_rfl) (by kernel_rfl) (by kernel_rfl) (fun _ _ _ h => h) (by rfl) (by assumption) (v := ?_) ?_ ?_
        rotate_left
        · intro w hSw; (try dsimp only at hSw); go_simp; (try with_reducible rfl)
        try simp only [Act.put, List.setIfInBounds_toArray, List.set_cons_zero, List.set_cons_succ]
        refine take_yes 13 11 rfl rfl (by kernel_rfl) (by kernel_rfl) (by kernel_rfl) (fun _ _ _ h => h) (by rfl) (by assumption) (v := ?_) ?_ ?_
        rotate_left
        · intro w hSw; (try dsimp only at hSw); go_simp; (try with_reducible rfl)
        try simp only [Act.put, List.setIfInBounds_toArray, List.set_cons_zero, List.set_cons_succ]
        refine wpAnyH_done (by kernel_rfl) ?_ _
        clear HX
        go_wp2_with fail
        go_ret2
        exact HQQ.out _ _ HZ.out
      refine AllReadyH.cons (o := _) rfl (fun K hK => ?_) AllReadyH.nil
      go_simp
      (try go_wp2_with fail)
      have hFx : Fr [] v3 (v3.alloc (.map #[] 0)) := (Fr.refl _ _).alloc _
      have hMa : MapIs idE ptrV (v3.alloc (.map #[] 0)) v3.heap.size [] := MapIs.new _
      have hXa : w.heap.size ≤ v3.heap.size := Nat.le_trans HF3.out.size hHeld.2.size
      have hNe : v3.heap.size ≠ xb := by have := hMb.lt; omega
      replace hMb := hMb.fr hFx (by simp)
      obtain ⟨v4, hV⟩ : ∃ V, v3.alloc (.map #[] 0) = V := ⟨_, rfl⟩
      obtain ⟨xa, hx⟩ : ∃ b, v3.heap.size = b := ⟨_, rfl⟩
      rw [hV] at hFx hMa ⊢ hMb
      rw [hx] at hMa hXa ⊢ hNe
      refine hK.out _ _ ?_ (fun hHeld1 => ?_)
      · (try dsimp only); exact HX.out _ (hHeld.2.trans hFx)
      clear hK K hV hx hFx
      replace hHeld := hHeld1
      clear hHeld1
      try simp only [Act.put, List.setIfInBounds_toArray, List.set_cons_zero, List.set_cons_succ]
      refine wpAnyH_ready (rs := [6]) (by kernel_rfl) (by simp) ?_
      refine AllReadyH.cons (o := _) rfl (fun K hK => ?_) AllReadyH.nil
      go_simp
      refine (CN.out _).mono ?_
      rintro r v5 ⟨rfl, hF5⟩
      (try go_wp2_with fail)
      refine hK.out _ _ ?_ (fun hHeld1 => ?_)
      · (try dsimp only); exact HX.out _ (hHeld.2.trans hF5)
      clear hK K
      try simp only [Act.put, List.setIfInBounds_toArray, List.set_cons_zero, List.set_cons_succ]
      replace hMa := hMa.fr hF5 (by simp)
      replace hMb := hMb.fr hF5 (by simp)
      replace hHeld := hHeld1
      clear hF5 hHeld1
      refine take_yes 10 48 rfl rfl (by kernel_rfl) (by kernel_rfl) (by kernel_rfl) (fun _ _ _ h => h) (by rfl) (by assumption) (v := ?_) ?_ ?_
      rotate_left
      · intro w hSw; (try dsimp only at hSw); go_simp; (try with_reducible rfl)
      try simp only [Act.put, List.setIfInBounds_toArray, List.set_cons_zero, List.set_cons_succ]
      refine wpAnyH_ready (rs := [11]) (by kernel_rfl) (by simp) ?_
      refine AllReadyH.cons (o := _) rfl (fun K hK => ?_) AllReadyH.nil
      go_simp
      (try go_wp2_with fail)
      have hFz : Fr [] v5 (v5.alloc (.cells #[.int .u8 m1, .int .u8 m2, .int .u8 m3, .int .u8 m4, .int .u8 m5, .int .u8 m6, .string (B nm), .string (B sec), .slice none 0 0, .int .i64 most, .map (some xa), .map (some xb), .int .u16 0, .slice none 0 0] 85 (0, 0))) := (Fr.refl _ _).alloc _
      have hFw := hHeld.2.trans hFz
      have HZ : Hid (NewC w ⟨m1, m2, m3, m4, m5, m6⟩ nm sec most (.returned (.tuple #[.pointer (some ⟨v5.heap.size, 0, none⟩), .int .i64 0])) (v5.alloc (.cells #[.int .u8 m1, .int .u8 m2, .int .u8 m3, .int .u8 m4, .int .u8 m5, .int .u8 m6, .string (B nm), .string (B sec), .slice none 0 0, .int .i64 most, .map (some xa), .map (some xb), .int .u16 0, .slice none 0 0] 85 (0, 0)))) := Lib.hid (newC_of (HF3.out.trans hHeld.2) hMa hMb hNe hXa hXb (Blk.new _ _ _))
      refine hK.out _ _ ?_ (fun hHeld1 => ?_)
      · (try dsimp only); exact HX.out _ hFw
      clear hK K hFz hFw hMa hMb hNe hXa hXb
      try simp only [Act.put, List.setIfInBounds_toArray, List.set_cons_zero, List.set_cons_succ]
      refine take_yes 12 10 rfl rfl (by kernel_rfl) (by kernel_rfl) (by kernel_rfl) (fun _ _ _ h => h) (by rfl) (by assumption) (v := ?_) ?_ ?_
      rotate_left
      · intro w hSw; (try dsimp only at hSw); go_simp; (try with_reducible rfl)
      try simp only [Act.put, List.setIfInBounds_toArray, List.set_cons_zero, List.set_cons_succ]
      refine take_yes 13 11 rfl rfl (by kernel_rfl) (by kernel_rfl) (by kernel_rfl) (fun _ _ _ h => h) (by rfl) (by assumption) (v := ?_) ?_ ?_
      rotate_left
      · intro w hSw; (try dsimp only at hSw); go_simp; (try with_reducible rfl)
      try simp only [Act.put, List.setIfInBounds_toArray, List.set_cons_zero, List.set_cons_succ]
      refine wpAnyH_done (by kernel_rfl) ?_ _
      clear HX
      go_wp2_with fail
      go_ret2
      exact HQQ.out _ _ HZ.out
    refine AllReadyH.cons (o := _) rfl (fun K hK => ?_) AllReadyH.nil
    go_simp
    (try go_wp2_with fail)
    have hFx : Fr [] v2 (v2.alloc (.map #[] 0)) := (Fr.refl _ _).alloc _
    have hMa : MapIs idE ptrV (v2.alloc (.map #[] 0)) v2.heap.size [] := MapIs.new _
    have hXa : w.heap.size ≤ v2.heap.size := Nat.le_trans HF3.out.size hHeld.2.size
    have hNe : v2.heap.size ≠ xb := by have := hMb.lt; omega
    replace hMb := hMb.fr hFx (by simp)
    obtain ⟨v3, hV⟩ : ∃ V, v2.alloc (.map #[] 0) = V := ⟨_, rfl⟩
    obtain ⟨xa, hx⟩ : ∃ b, v2.heap.size = b := ⟨_, rfl⟩
    rw [hV] at hFx hMa ⊢ hMb
    rw [hx] at hMa hXa ⊢ hNe
    refine hK.out _ _ ?_ (fun hHeld1 => ?_)
    · (try dsimp only); exact HX.out _ (hHeld.2.trans hFx)
    clear hK K hV hx hFx
    replace hHeld := hHeld1
    clear hHeld1
    try simp only [Act.put, List.setIfInBounds_toArray, List.set_cons_zero, List.set_cons_succ]
    refine wpAnyH_ready (rs := [4]) (by kernel_rfl) (by simp) ?_
    refine AllReadyH.cons (o := _) rfl (fun K hK => ?_) AllReadyH.nil
    go_simp
    refine (T2.out _).mono ?_
    rintro r v4 ⟨rfl, hF5⟩
    (try go_wp2_with fail)
    refine hK.out _ _ ?_ (fun hHeld1 => ?_)
    · (try dsimp only); exact HX.out _ (hHeld.2.trans hF5)
    clear hK K
    try simp only [Act.put, List.setIfInBounds_toArray, List.set_cons_zero, List.set_cons_succ]
    replace hMa := hMa.fr hF5 (by simp)
    replace hMb := hMb.fr hF5 (by simp)
    replace hHeld := hHeld1
    clear hF5 hHeld1
    refine wpAnyH_ready (rs := [6]) (by kernel_rfl) (by simp) ?_
    refine AllReadyH.cons (o := _) rfl (fun K hK => ?_) AllReadyH.nil
    go_simp
    refine (CN.out _).mono ?_
    rintro r v5 ⟨rfl, hF5⟩
    (try go_wp2_with fail)
    refine hK.out _ _ ?_ (fun hHeld1 => ?_)
    · (try dsimp only); exact HX.out _ (hHeld.2.trans hF5)
    clear hK K
    try simp only [Act.put, List.setIfInBounds_toArray, List.set_cons_zero, List.set_cons_succ]
    replace hMa := hMa.fr hF5 (by simp)
    replace hMb := hMb.fr hF5 (by simp)
    replace hHeld := hHeld1
    clear hF5 hHeld1
    refine take_yes 10 48 rfl rfl (by kernel_rfl) (by kernel_rfl) (by kernel_rfl) (fun _ _ _ h => h) (by rfl) (by assumption) (v := ?_) ?_ ?_
    rotate_left
    · intro w hSw; (try dsimp only at hSw); go_simp; (try with_reducible rfl)
    try simp only [Act.put, List.setIfInBounds_toArray, List.set_cons_zero, List.set_cons_succ]
    refine wpAnyH_ready (rs := [11]) (by kernel_rfl) (by simp) ?_
    refine AllReadyH.cons (o := _) rfl (fun K hK => ?_) AllReadyH.nil
    go_simp
    (try go_wp2_with fail)
    have hFz : Fr [] v5 (v5.alloc (.cells #[.int .u8 m1, .int .u8 m2, .int .u8 m3, .int .u8 m4, .int .u8 m5, .int .u8 m6, .string (B nm), .string (B sec), .slice none 0 0, .int .i64 most, .map (some xa), .map (some xb), .int .u16 0, .slice none 0 0] 85 (0, 0))) := (Fr.refl _ _).alloc _
    have hFw := hHeld.2.trans hFz
    have HZ : Hid (NewC w ⟨m1, m2, m3, m4, m5, m6⟩ nm sec most (.returned (.tuple #[.pointer (some ⟨v5.heap.size, 0, none⟩), .int .i64 0])) (v5.alloc (.cells #[.int .u8 m1, .int .u8 m2, .int .u8 m3, .int .u8 m4, .int .u8 m5, .int .u8 m6, .string (B nm), .string (B sec), .slice none 0 0, .int .i64 most, .map (some xa), .map (some xb), .int .u16 0, .slice none 0 0] 85 (0, 0)))) := Lib.hid (newC_of (HF3.out.trans hHeld.2) hMa hMb hNe hXa hXb (Blk.new _ _ _))
    refine hK.out _ _ ?_ (fun hHeld1 => ?_)
    · (try dsimp only); exact HX.out _ hFw
    clear hK K hFz hFw hMa hMb hNe hXa hXb
    try simp only [Act.put, List.setIfInBounds_toArray, List.set_cons_zero, List.set_cons_succ]
    refine take_yes 12 10 rfl rfl (by kernel_rfl) (by kernel_rfl) (by kernel_rfl) (fun _ _ _ h => h) (by rfl) (by assumption) (v := ?_) ?_ ?_
    rotate_left
    · intro w hSw; (try dsimp only at hSw); go_simp; (try with_reducible rfl)
    try simp only [Act.put, List.setIfInBounds_toArray, List.set_cons_zero, List.set_cons_succ]
    refine take_yes 13 11 rfl rfl (by kernel_rfl) (by kernel_rfl) (by kernel_rfl) (fun _ _ _ h => h) (by rfl) (by assumption) (v := ?_) ?_ ?_
    rotate_left
    · intro w hSw; (try dsimp only at hSw); go_simp; (try with_reducible rfl)
    try simp only [Act.put, List.setIfInBounds_toArray, List.set_cons_zero, List.set_cons_succ]
    refine wpAnyH_done (by kernel_rfl) ?_ _
    clear HX
    go_wp2_with fail
    go_ret2
    exact HQQ.out _ _ HZ.out
  refine AllReadyH.cons (o := _) rfl (fun K hK => ?_) AllReadyH.nil
  go_simp
  (try go_wp2_with fail)
  have hFx : Fr [] v1 (v1.alloc (.map #[] 0)) := (Fr.refl _ _).alloc _
  have hMa : MapIs idE ptrV (v1.alloc (.map #[] 0)) v1.heap.size [] := MapIs.new _
  have hXa : w.heap.size ≤ v1.heap.size := Nat.le_trans HF3.out.size hHeld.2.size
  have hNe : v1.heap.size ≠ xb := by have := hMb.lt; omega
  replace hMb := hMb.fr hFx (by simp)
  obtain ⟨v2, hV⟩ : ∃ V, v1.alloc (.map #[] 0) = V := ⟨_, rfl⟩
  obtain ⟨xa, hx⟩ : ∃ b, v1.heap.size = b := ⟨_, rfl⟩
  rw [hV] at hFx hMa ⊢ hMb
  rw [hx] at hMa hXa ⊢ hNe
  refine hK.out _ _ ?_ (fun hHeld1 => ?_)
  · (try dsimp only); exact HX.out _ (hHeld.2.trans hFx)
  clear hK K hV hx hFx
  replace hHeld := hHeld1
  clear hHeld1
  try simp only [Act.put, List.setIfInBounds_toArray, List.set_cons_zero, List.set_cons_succ]
  refine wpAnyH_ready (rs := [2]) (by kernel_rfl) (by simp) ?_
  refine AllReadyH.cons (o := _) rfl (fun K hK => ?_) AllReadyH.nil
  go_simp
  refine (T1.out _).mono ?_
  rintro r v3 ⟨rfl, hF5⟩
  (try go_wp2_with fail)
  refine hK.out _ _ ?_ (fun hHeld1 => ?_)
  · (try dsimp only); exact HX.out _ (hHeld.2.trans hF5)
  clear hK K
  try simp only [Act.put, List.setIfInBounds_toArray, List.set_cons_zero, List.set_cons_succ]
  replace hMa := hMa.fr hF5 (by simp)
  replace hMb := hMb.fr hF5 (by simp)
  replace hHeld := hHeld1
  clear hF5 hHeld1
  refine wpAnyH_ready (rs := [4]) (by kernel_rfl) (by simp) ?_
  refine AllReadyH.cons (o := _) rfl (fun K hK => ?_) AllReadyH.nil
  go_simp
  refine (T2.out _).mono ?_
  rintro r v4 ⟨rfl, hF5⟩
  (try go_wp2_with fail)
  refine hK.out _ _ ?_ (fun hHeld1 => ?_)
  · (try dsimp only); exact HX.out _ (hHeld.2.trans hF5)
  clear hK K
  try simp only [Act.put, List.setIfInBounds_toArray, List.set_cons_zero, List.set_cons_succ]
  replace hMa := hMa.fr hF5 (by simp)
  replace hMb := hMb.fr hF5 (by simp)
  replace hHeld := hHeld1
  clear hF5 hHeld1
  refine wpAnyH_ready (rs := [6]) (by kernel_rfl) (by simp) ?_
  refine AllReadyH.cons (o := _) rfl (fun K hK => ?_) AllReadyH.nil
  go_simp
  refine (CN.out _).mono ?_
  rintro r v5 ⟨rfl, hF5⟩
  (try go_wp2_with fail)
  refine hK.out _ _ ?_ (fun hHeld1 => ?_)
  · (try dsimp only); exact HX.out _ (hHeld.2.trans hF5)
  clear hK K
  try simp only [Act.put, List.setIfInBounds_toArray, List.set_cons_zero, List.set_cons_succ]
  replace hMa := hMa.fr hF5 (by simp)
  replace hMb := hMb.fr hF5 (by simp)
  replace hHeld := hHeld1
  clear hF5 hHeld1
  refine take_yes 10 48 rfl rfl (by kernel_rfl) (by kernel_rfl) (by kernel_rfl) (fun _ _ _ h => h) (by rfl) (by assumption) (v := ?_) ?_ ?_
  rotate_left
  · intro w hSw; (try dsimp only at hSw); go_simp; (try with_reducible rfl)
  try simp only [Act.put, List.setIfInBounds_toArray, List.set_cons_zero, List.set_cons_succ]
  refine wpAnyH_ready (rs := [11]) (by kernel_rfl) (by simp) ?_
  refine AllReadyH.cons (o := _) rfl (fun K hK => ?_) AllReadyH.nil
  go_simp
  (try go_wp2_with fail)
  have hFz : Fr [] v5 (v5.alloc (.cells #[.int .u8 m1, .int .u8 m2, .int .u8 m3, .int .u8 m4, .int .u8 m5, .int .u8 m6, .string (B nm), .string (B sec), .slice none 0 0, .int .i64 most, .map (some xa), .map (some xb), .int .u16 0, .slice none 0 0] 85 (0, 0))) := (Fr.refl _ _).alloc _
  have hFw := hHeld.2.trans hFz
  have HZ : Hid (NewC w ⟨m1, m2, m3, m4, m5, m6⟩ nm sec most (.returned (.tuple #[.pointer (some ⟨v5.heap.size, 0, none⟩), .int .i64 0])) (v5.alloc (.cells #[.int .u8 m1, .int .u8 m2, .int .u8 m3, .int .u8 m4, .int .u8 m5, .int .u8 m6, .string (B nm), .string (B sec), .slice none 0 0, .int .i64 most, .map (some xa), .map (some xb), .int .u16 0, .slice none 0 0] 85 (0, 0)))) := Lib.hid (newC_of (HF3.out.trans hHeld.2) hMa hMb hNe hXa hXb (Blk.new _ _ _))
  refine hK.out _ _ ?_ (fun hHeld1 => ?_)
  · (try dsimp only); exact HX.out _ hFw
  clear hK K hFz hFw hMa hMb hNe hXa hXb
  try simp only [Act.put, List.setIfInBounds_toArray, List.set_cons_zero, List.set_cons_succ]
  refine take_yes 12 10 rfl rfl (by kernel_rfl) (by kernel_rfl) (by kernel_rfl) (fun _ _ _ h => h) (by rfl) (by assumption) (v := ?_) ?_ ?_
  rotate_left
  · intro w hSw; (try dsimp only at hSw); go_simp; (try with_reducible rfl)
  try simp only [Act.put, List.setIfInBounds_toArray, List.set_cons_zero, List.set_cons_succ]
  refine take_yes 13 11 rfl rfl (by kernel_rfl) (by kernel_rfl) (by kernel_rfl) (fun _ _ _ h => h) (by rfl) (by assumption) (v := ?_) ?_ ?_
  rotate_left
  · intro w hSw; (try dsimp only at hSw); go_simp; (try with_reducible rfl)
  try simp only [Act.put, List.setIfInBounds_toArray, List.set_cons_zero, List.set_cons_succ]
  refine wpAnyH_done (by kernel_rfl) ?_ _
  clear HX
  go_wp2_with fail
  go_ret2
  exact HQQ.out _ _ HZ.out
end
end Go.Proofs.Ytcdencpkgfehlaa
