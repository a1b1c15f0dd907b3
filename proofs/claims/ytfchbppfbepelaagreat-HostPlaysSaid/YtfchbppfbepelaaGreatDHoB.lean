/- the document's tags of any bytes (printed by tools/gen_dhob.py). -/
import Derived.Test.YtfchbppfbepelaaGreatDHoA
namespace Go.Proofs.YtfchbppfbepelaaGreat
open Go.RowKit
set_option linter.unusedVariables false
theorem getV_drop (l : List UInt8) (k i n : Nat) : getV (l.drop k) i n = getV l (k + i) n := by
  induction n with
  | zero => rfl
  | succ n ih =>
    have e : (l.drop k).getD (i + n) 0 = l.getD (k + i + n) 0 := by simp only [List.getD, List.getElem?_drop]; rw [Nat.add_assoc]
    simp only [getV, ih, e]
section
variable {w : World}
set_option maxRecDepth 100000 in
set_option maxHeartbeats 8000000 in
theorem dgettags_any (L : List UInt8) (hL : L.length ≤ 3000) :
    Calls Tryz.prog 299 #[.string (B L)] w (GotA w (tparse 20 L)) := by
  obtain ⟨i0, hi, hz0, hz1, hz2⟩ := info_parts infoTag
  obtain ⟨O, hO⟩ : ∃ O, tparse 20 L = O := ⟨_, rfl⟩
  rw [hO]
  have HO := Lib.hid hO
  have HLL := Lib.hid hL
  have hLI : (L.length : Int) ≤ 3000 := by omega
  clear hO hL
  go_enter Tryz.func299, Tryz.ntmps299
  go_wp2_with fail
  go_loopw [4, 5] (fun ov kv wr => ∃ (k : Nat) (acc : List Tg), k ≤ L.length ∧ kv = .int .i64 k ∧ acc.length ≤ 20 ∧ O = (tparse (20 - acc.length) (L.drop k)).map (fun l => acc ++ l) ∧ wr.ownsRow w.heap.size 272 2 ov acc.length (tgF acc) ∧ Fr [] w wr) (fun _ kv _ => L.length - (intOf kv).toNat)
  case atStart => exact ⟨0, [], Nat.zero_le _, rfl, by simp, by rw [← HO.out]; simp, World.ownsRow_nil _ _ _ _, Fr.refl _ _⟩
  case round =>
    clear HO
    obtain ⟨k, acc, hk, rfl, hal, hp, hown, hF⟩ := hrel
    have HP := Lib.hid hp
    have HAL := Lib.hid hal
    clear hp hal
    by_cases hkl : k < L.length
    · obtain ⟨r, hr⟩ : ∃ r, L.drop k = r := ⟨_, rfl⟩
      have hrl : (r.length : Int) = (L.length : Int) - k := by rw [← hr, List.length_drop]; omega
      rw [hr] at HP
      have h0 : r ≠ [] := fun e => by rw [e] at hrl; simp at hrl; omega
      have g0 : getV r 0 2 = getV L k 2 := by rw [← hr, getV_drop]; rfl
      have g2 : getV r 2 2 = getV L (k + 2) 2 := by rw [← hr, getV_drop]
      have hk1 : (k : Int) < L.length := by omega
      by_cases h2 : r.length < 2
      · have HX : Hid (GotA w O (.returned (.tuple #[.slice none 0 0, .int .i64 5])) wr) := Lib.hid (by rw [HP.out, tparse_two h0 h2]; exact ⟨5, by decide, rfl, hF⟩)
        have a1 : ¬ (2 : Int) ≤ (L.length : Int) - k := by omega
        have a2 : (L.length : Int) - k < 4 := by omega
        clear hown hF HP h2 h0 hr hrl g0 g2 hk hkl
        go_wp2_with fail
        go_ret2
        exact HX.out
      have a1 : (2 : Int) ≤ (L.length : Int) - k := by omega
      have N1 : Hid (∀ (v : Int) W, v = k → Calls Tryz.prog 293 #[.string (B L), .int .i64 v] W fun e w' => e = .returned (.int .i64 (getV r 0 2)) ∧ Fr [] W w') := Lib.hid fun v W hv => by
        subst hv; rw [g0]; exact num_f L k W (by omega) (by have := HLL.out; omega)
      have tb := getV_bd r 0 2
      by_cases h3 : getV r 0 2 = 0
      · obtain ⟨A, cap, rfl⟩ := own_slice hown
        have HX : Hid (∀ W, Fr [] wr W → GotA w O (.returned (.tuple #[.slice A acc.length cap, .int .i64 0])) W) := Lib.hid fun W hW => by
          rw [HP.out, tparse_end h0 h2 h3, Option.map_some, List.append_nil]; exact ⟨A, cap, rfl, own_fr0 hown hW, hF.trans hW⟩
        rw [h3] at N1
        clear hown hF HP h2 h0 h3 tb hr hrl g0 g2 hk hkl
        go_wp2_with fail
        refine (N1.out _ _ (by with_reducible rfl)).mono ?_
        rintro e w1 ⟨rfl, hF1⟩
        have HY := Lib.hid (HX.out _ hF1)
        clear hF1
        go_wp2_with fail
        go_ret2
        exact HY.out
      by_cases h4 : r.length < 4
      · have HX : Hid (∀ W, Fr [] wr W → GotA w O (.returned (.tuple #[.slice none 0 0, .int .i64 5])) W) := Lib.hid fun W hW => by rw [HP.out, tparse_four h0 h2 h3 h4]; exact ⟨5, by decide, rfl, hF.trans hW⟩
        have a2 : (L.length : Int) - k < 4 := by omega
        obtain ⟨t, ht⟩ : ∃ t, getV r 0 2 = t := ⟨_, rfl⟩
        rw [ht] at N1 h3
        have ht0 : (t == 0) = false := by rw [beq_eq_false_iff_ne]; exact h3
        clear hown hF HP h2 h0 h3 h4 tb hr hrl g0 g2 ht hk hkl
        go_wp2_with fail
        refine (N1.out _ _ (by with_reducible rfl)).mono ?_
        rintro e w1 ⟨rfl, hF1⟩
        have HY := Lib.hid (HX.out _ hF1)
        clear hF1
        go_wp2_with fail
        go_ret2
        exact HY.out
      have a2 : ¬ (L.length : Int) - k < 4 := by omega
      have N2 : Hid (∀ (v : Int) W, v = (k : Int) + 2 → Calls Tryz.prog 293 #[.string (B L), .int .i64 v] W fun e w' => e = .returned (.int .i64 (getV r 2 2)) ∧ Fr [] W w') := Lib.hid fun v W hv => by
        subst hv; rw [g2]; exact num_f L (k + 2) W (by omega) (by have := HLL.out; omega)
      have nb := getV_bd r 2 2
      by_cases h5 : (r.length : Int) - 4 < getV r 2 2
      · have HX : Hid (∀ W, Fr [] wr W → GotA w O (.returned (.tuple #[.slice none 0 0, .int .i64 5])) W) := Lib.hid fun W hW => by rw [HP.out, tparse_cut h0 h2 h3 h4 h5]; exact ⟨5, by decide, rfl, hF.trans hW⟩
        obtain ⟨t, ht⟩ : ∃ t, getV r 0 2 = t := ⟨_, rfl⟩
        obtain ⟨n, hn⟩ : ∃ t, getV r 2 2 = t := ⟨_, rfl⟩
        rw [ht] at N1 h3
        rw [hn] at N2 h5 nb
        have a3 : (L.length : Int) - k - 4 < n := by omega
        have ht0 : (t == 0) = false := by rw [beq_eq_false_iff_ne]; exact h3
        clear hown hF HP h2 h0 h3 h4 h5 tb hr hrl g0 g2 ht hn hk hkl
        go_wp2_with fail
        refine (N1.out _ _ (by with_reducible rfl)).mono ?_
        rintro e w1 ⟨rfl, hF1⟩
        go_wp2_with fail
        refine (N2.out _ _ (by with_reducible rfl)).mono ?_
        rintro e w2 ⟨rfl, hF2⟩
        have HY := Lib.hid (HX.out _ (hF1.trans hF2))
        clear hF1 hF2
        go_wp2_with fail
        go_ret2
        exact HY.out
      obtain ⟨s, R, e1, e2, e3, e4⟩ := tag_split r h4 h5
      have hsl : (r.length : Int) = (s.length : Int) + R.length + 4 := by
        have := congrArg List.length e1
        rw [List.length_drop, List.length_append] at this
        omega
      obtain ⟨t, ht⟩ : ∃ t, getV r 0 2 = t := ⟨_, rfl⟩
      have a3 : ¬ (L.length : Int) - k - 4 < s.length := by omega
      by_cases h6 : 20 ≤ acc.length
      · have HX : Hid (∀ W, Fr [] wr W → GotA w O (.returned (.tuple #[.slice none 0 0, .int .i64 2])) W) := Lib.hid fun W hW => by rw [HP.out, show 20 - acc.length = 0 from by omega, tparse_many h0 h2 h3 h4 h5]; exact ⟨2, by decide, rfl, hF.trans hW⟩
        rw [ht] at N1 h3
        rw [← e2] at N2
        have ht0 : (t == 0) = false := by rw [beq_eq_false_iff_ne]; exact h3
        have h6 : (20 : Int) ≤ acc.length := by omega
        have hsb : (s.length : Int) ≤ 3000 := by omega
        obtain ⟨A, cap, rfl⟩ := own_slice hown
        clear hown hF HP h2 h0 h3 h4 h5 tb nb hr hrl g0 g2 ht e1 e2 e3 e4 hsl hk hkl
        go_wp2_with fail
        refine (N1.out _ _ (by with_reducible rfl)).mono ?_
        rintro e w1 ⟨rfl, hF1⟩
        go_wp2_with fail
        refine (N2.out _ _ (by with_reducible rfl)).mono ?_
        rintro e w2 ⟨rfl, hF2⟩
        go_wp2_with fail
        refine (N2.out _ _ (by with_reducible rfl)).mono ?_
        rintro e w3 ⟨rfl, hF3⟩
        have HY := Lib.hid (HX.out _ ((hF1.trans hF2).trans hF3))
        clear hF1 hF2 hF3
        go_wp2_with fail
        go_ret2
        exact HY.out
      have HT : Hid (tparse (20 - acc.length) r = (tparse (20 - (acc.length + 1)) R).map fun l => (t, s) :: l) := Lib.hid (by
        rw [show 20 - acc.length = (20 - (acc.length + 1)) + 1 from by omega]
        exact tparse_tag h0 h2 ht (by rw [← ht]; exact h3) h4 h5 e3 e4)
      have hLd : L.drop (k + 4) = s ++ R := by rw [← List.drop_drop, hr, e1]
      have HC1 : Hid (B (List.take s.length (List.drop (k + 4) L)) = B s) := Lib.hid (by rw [hLd, List.take_left])
      have HKR : Hid (L.drop (k + 4 + s.length) = R) := Lib.hid (by rw [← List.drop_drop, hLd, List.drop_left])
      have HKB : Hid (k + 4 + s.length ≤ L.length) := Lib.hid (by omega)
      obtain ⟨acc', hacc⟩ : ∃ a, acc ++ [(t, s)] = a := ⟨_, rfl⟩
      have HA1 : Hid (acc'.length = acc.length + 1) := Lib.hid (by rw [← hacc]; simp)
      have HA2 : Hid (tgF acc' = tgF acc ++ tgL (t, s)) := Lib.hid (by rw [← hacc, tgF_app])
      have HA3 : Hid (O = (tparse (20 - (acc.length + 1)) R).map (fun l => acc' ++ l)) := Lib.hid (by
        rw [HP.out, HT.out, ← hacc, Option.map_map]
        congr 1
        funext l
        simp)
      rw [ht] at N1 h3 tb
      rw [← e2] at N2
      have ht0 : (t == 0) = false := by rw [beq_eq_false_iff_ne]; exact h3
      have hj19 : ¬ (20 : Int) ≤ acc.length := by omega
      have HAI : Hid (acc.length ≤ 20) := HAL
      have hsb : (s.length : Int) ≤ 3000 := by omega
      have hkb : (k : Int) ≤ 3000 := by omega
      have hks : (k : Int) + 4 + s.length ≤ L.length := by omega
      have hfx : ((k : Int) + 4).toNat = k + 4 := by omega
      have HW1 : Hid (IntKind.i64.wrap ((k : Int) + 4) = (k : Int) + 4) := Lib.hid (IntWalk.i64_in _ (by omega))
      have HW2 : Hid (IntKind.i64.wrap ((k : Int) + 4 + s.length) = (k : Int) + 4 + s.length) := Lib.hid (IntWalk.i64_in _ (by omega))
      have HKI := Lib.hid hks
      obtain ⟨A1, c1, rfl⟩ := own_slice hown
      clear HT HP hacc h2 h0 h4 h5 h6 tb nb h3 ht e1 e2 e3 e4 hsl hr hrl g0 g2 hLd hk hkl
      go_wp2_with fail
      refine (N1.out _ _ (by with_reducible rfl)).mono ?_
      rintro e w1 ⟨rfl, hF1⟩
      go_wp2_with fail
      refine (N2.out _ _ (by with_reducible rfl)).mono ?_
      rintro e w2 ⟨rfl, hF2⟩
      go_wp2_with fail
      refine (N2.out _ _ (by with_reducible rfl)).mono ?_
      rintro e w3 ⟨rfl, hF3⟩
      have hown3 := own_fr0 hown ((hF1.trans hF2).trans hF3)
      have HF3 := Lib.hid (((hF.trans hF1).trans hF2).trans hF3)
      clear hown hF hF1 hF2 hF3
      go_wp2_with fail
      refine wp_region_held_drew (S := (fun W => Fr [] w W)) (by kernel_rfl) ?_ (fun hHeld => ?_)
      · (try dsimp only); exact HF3.out.drew
      have hown4 := own_fr0 hown3 (Fr.refl [] w3).drew
      obtain ⟨v0, hv⟩ : ∃ X, w3.drew = X := ⟨_, rfl⟩
      rw [hv] at hHeld hown4 ⊢
      clear hv hown3
      refine take_yes 0 46 rfl rfl (by kernel_rfl) (by kernel_rfl) (by kernel_rfl) (fun _ _ _ h => h) (by rfl) (by assumption) (v := ?_) ?_ ?_
      rotate_left
      · intro w hSw; (try dsimp only at hSw); go_simp; (try with_reducible rfl)
      try simp only [Act.put, List.setIfInBounds_toArray, List.set_cons_zero, List.set_cons_succ]
      refine take_yes 1 47 rfl rfl (by kernel_rfl) (by kernel_rfl) (by kernel_rfl) (fun _ _ _ h => h) (by rfl) (by assumption) (v := ?_) ?_ ?_
      rotate_left
      · intro w hSw; (try dsimp only at hSw); go_simp; (try with_reducible rfl)
      try simp only [Act.put, List.setIfInBounds_toArray, List.set_cons_zero, List.set_cons_succ]
      refine take_yes 2 48 rfl rfl (by kernel_rfl) (by kernel_rfl) (by kernel_rfl) (fun _ _ _ h => h) (by rfl) (by assumption) (v := ?_) ?_ ?_
      rotate_left
      · intro w hSw; (try dsimp only at hSw); go_simp; (try with_reducible rfl)
      try simp only [Act.put, List.setIfInBounds_toArray, List.set_cons_zero, List.set_cons_succ]
      refine take_yes 4 50 rfl rfl (by kernel_rfl) (by kernel_rfl) (by kernel_rfl) (fun _ _ _ h => h) (by rfl) (by assumption) (v := ?_) ?_ ?_
      rotate_left
      · intro w hSw; (try dsimp only at hSw); go_simp; (try with_reducible rfl)
      try simp only [Act.put, List.setIfInBounds_toArray, List.set_cons_zero, List.set_cons_succ]
      refine take_yes 5 51 rfl rfl (by kernel_rfl) (by kernel_rfl) (by kernel_rfl) (fun _ _ _ h => h) (by rfl) (by assumption) (v := ?_) ?_ ?_
      rotate_left
      · intro w hSw; (try dsimp only at hSw); go_simp; (try with_reducible rfl)
      try simp only [Act.put, List.setIfInBounds_toArray, List.set_cons_zero, List.set_cons_succ]
      refine take_yes 6 52 rfl rfl (by kernel_rfl) (by kernel_rfl) (by kernel_rfl) (fun _ _ _ h => h) (by rfl) (by assumption) (v := ?_) ?_ ?_
      rotate_left
      · intro w hSw; (try dsimp only at hSw); go_simp; (try with_reducible rfl)
      try simp only [Act.put, List.setIfInBounds_toArray, List.set_cons_zero, List.set_cons_succ]
      refine take_yes 7 53 rfl rfl (by kernel_rfl) (by kernel_rfl) (by kernel_rfl) (fun _ _ _ h => h) (by rfl) (by assumption) (v := ?_) ?_ ?_
      rotate_left
      · intro w hSw; (try dsimp only at hSw); go_simp; (try with_reducible rfl)
      try simp only [Act.put, List.setIfInBounds_toArray, List.set_cons_zero, List.set_cons_succ]
      refine take_yes 8 54 rfl rfl (by kernel_rfl) (by kernel_rfl) (by kernel_rfl) (fun _ _ _ h => h) (by rfl) (by assumption) (v := ?_) ?_ ?_
      rotate_left
      · intro w hSw; (try dsimp only at hSw); go_simp; (try with_reducible rfl)
      try simp only [Act.put, List.setIfInBounds_toArray, List.set_cons_zero, List.set_cons_succ]
      refine take_yes 9 55 rfl rfl (by kernel_rfl) (by kernel_rfl) (by kernel_rfl) (fun _ _ _ h => h) (by rfl) (by assumption) (v := ?_) ?_ ?_
      rotate_left
      · intro w hSw; (try dsimp only at hSw); go_simp; (try with_reducible rfl)
      try simp only [Act.put, List.setIfInBounds_toArray, List.set_cons_zero, List.set_cons_succ]
      refine take_yes 10 56 rfl rfl (by kernel_rfl) (by kernel_rfl) (by kernel_rfl) (fun _ _ _ h => h) (by rfl) (by assumption) (v := ?_) ?_ ?_
      rotate_left
      · intro w hSw; (try dsimp only at hSw); go_simp; (try with_reducible rfl)
      try simp only [Act.put, List.setIfInBounds_toArray, List.set_cons_zero, List.set_cons_succ]
      refine take_yes 11 57 rfl rfl (by kernel_rfl) (by kernel_rfl) (by kernel_rfl) (fun _ _ _ h => h) (by rfl) (by assumption) (v := .string (B s)) ?_ ?_
      · intro w hSw; (try dsimp only at hSw); go_simp; rw [HW1.out, HW2.out, if_pos ⟨by omega, HKI.out⟩, if_pos ⟨by omega, by omega⟩, show ((k : Int) + 4 + s.length).toNat - ((k : Int) + 4).toNat = s.length from by omega, show ((k : Int) + 4).toNat = k + 4 from by omega, HC1.out]
      try simp only [Act.put, List.setIfInBounds_toArray, List.set_cons_zero, List.set_cons_succ]
      refine wpAnyH_ready (rs := [3]) (by kernel_rfl) (by simp) ?_
      refine AllReadyH.cons (o := _) rfl (fun K hK => ?_) AllReadyH.nil
      go_simp
      refine (N1.out _ _ (by with_reducible rfl)).mono ?_
      rintro e v1 ⟨rfl, hF5⟩
      (try go_wp2_with fail)
      have hown5 := own_fr0 hown4 hF5
      have hHeld2 : Fr [] w v1 := hHeld.trans hF5
      refine hK.out _ _ ?_ (fun hHeld3 => ?_)
      · (try dsimp only); exact hHeld2
      clear hK K hHeld hHeld3 hF5 hown4
      try simp only [Act.put, List.setIfInBounds_toArray, List.set_cons_zero, List.set_cons_succ]
      have hHeld := hHeld2
      clear hHeld2
      refine take_yes 12 58 rfl rfl (by kernel_rfl) (by kernel_rfl) (by kernel_rfl) (fun _ _ _ h => h) (by rfl) (by assumption) (v := ?_) ?_ ?_
      rotate_left
      · intro w hSw; (try dsimp only at hSw); go_simp; (try with_reducible rfl)
      try simp only [Act.put, List.setIfInBounds_toArray, List.set_cons_zero, List.set_cons_succ]
      refine wpAnyH_ready (rs := [13]) (by kernel_rfl) (by simp) ?_
      refine AllReadyH.cons (o := _) rfl (fun K hK => ?_) AllReadyH.nil
      go_simp
      (try go_wp2_with fail)
      have hFx : Fr [] v1 (v1.alloc (.cells #[.int .i64 t, .string (B s)] 272 (0, 0))) := (Fr.refl _ _).alloc _
      have hOwnX := World.ownsRow_lit (base := 0) (e := 272) (size := 2) v1 #[.int .i64 t, .string (B s)] 1 (Nat.zero_le _) (by unfold maxLen; omega) rfl
      obtain ⟨v2, hv⟩ : ∃ X, v1.alloc (.cells #[.int .i64 t, .string (B s)] 272 (0, 0)) = X := ⟨_, rfl⟩
      obtain ⟨qx, hqx⟩ : ∃ X, v1.heap.size = X := ⟨_, rfl⟩
      rw [hv] at hFx hOwnX ⊢
      rw [hqx] at hOwnX ⊢
      have hHeld2 : Fr [] w v2 := hHeld.trans hFx
      have hown6 := own_fr0 hown5 hFx
      refine hK.out _ _ ?_ (fun hHeld3 => ?_)
      · (try dsimp only); exact hHeld2
      clear hK K hHeld hFx hv hqx hown5
      have hHeld := hHeld2
      clear hHeld2 hHeld3
      try simp only [Act.put, List.setIfInBounds_toArray, List.set_cons_zero, List.set_cons_succ]
      refine wpAnyH_ready (rs := [14]) (by kernel_rfl) (by simp) ?_
      refine AllReadyH.cons (o := _) rfl (fun K hK => ?_) AllReadyH.nil
      rw [if_pos (by rfl)]
      (try simp only [List.getElem_toArray, List.getElem_cons_succ, List.getElem_cons_zero])
      refine wp_app _ 60 rfl (.tmp 46) (.tmp 59) 250 rfl w.heap.size 272 i0 (.agg #[.int .i64 0, .string ⟨#[]⟩]) 2 24 Tryz.underlying250 hi hz0 hz1 hz2 rfl (by decide) _ acc.length _ (by rfl) hown6 _ _ _ _ _ (by rfl) (Reads.of_own hOwnX) (by simp [Value.oneCell']) ?_ ?_ hHeld.size ?_
      · have := HAI.out; unfold maxLen; omega
      · have := HAI.out; omega
      intro vc v3 hownC hgrC hrowC
      have HF9 := Lib.hid ((hHeld).grown hgrC (fun q hq => own_new hown6 q hq))
      have HZ := Lib.hid (show v3.ownsRow w.heap.size 272 2 vc acc'.length (tgF acc') from by rw [HA2.out, HA1.out]; exact hownC)
      refine hK.out _ _ ?_ (fun hHeld3 => ?_)
      · (try dsimp only); exact HF9.out
      clear hK K hHeld hown6 hownC hgrC hrowC hOwnX
      try simp only [Act.put, List.setIfInBounds_toArray, List.set_cons_zero, List.set_cons_succ]
      refine take_yes 15 4 rfl rfl (by kernel_rfl) (by kernel_rfl) (by kernel_rfl) (fun _ _ _ h => h) (by rfl) (by assumption) (v := ?_) ?_ ?_
      rotate_left
      · intro w hSw; (try dsimp only at hSw); go_simp; (try with_reducible rfl)
      try simp only [Act.put, List.setIfInBounds_toArray, List.set_cons_zero, List.set_cons_succ]
      refine wpAnyH_done (by kernel_rfl) ?_ _
      clear hHeld3
      go_wp2_with fail
      go_roundw
      case rel => exact ⟨k + 4 + s.length, acc', by have := HKB.out; omega, by go_num, by rw [HA1.out]; omega, by rw [HA1.out, HKR.out]; exact HA3.out, HZ.out, HF9.out⟩
      case measure => have := HKB.out; (simp [intOf]) <;> omega
    · obtain rfl : k = L.length := by omega
      obtain ⟨A, cap, rfl⟩ := own_slice hown
      have HX : Hid (GotA w O (.returned (.tuple #[.slice A acc.length cap, .int .i64 0])) wr) := Lib.hid (by rw [HP.out, List.drop_length, tparse_nil, Option.map_some, List.append_nil]; exact ⟨A, cap, rfl, hown, hF⟩)
      have hge : ¬ (L.length : Int) < L.length := by omega
      clear hown hF HP hk hkl
      go_wp2_with fail
      go_ret2
      exact HX.out
end
end Go.Proofs.YtfchbppfbepelaaGreat
