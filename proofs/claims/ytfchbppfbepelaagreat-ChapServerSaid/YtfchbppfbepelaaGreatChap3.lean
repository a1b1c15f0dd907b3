/- chap.GetValue where it is good; the document's PutValue, GetValue. -/
import Derived.Test.YtfchbppfbepelaaGreatChap1
namespace Go.Proofs.YtfchbppfbepelaaGreat
open Go.RowKit
set_option linter.unusedVariables false

theorem gv_good (c : UInt8) (r : List UInt8) (h : gvE (c :: r) = 0) : 1 ≤ c.toNat ∧ c.toNat ≤ 60 ∧ c.toNat ≤ r.length ∧ r.length - c.toNat ≤ 60 := by
  simp only [gvE] at h
  by_cases h1 : c.toNat < 1 ∨ 60 < c.toNat
  · rw [if_pos h1] at h; exact absurd h (by decide)
  · rw [if_neg h1] at h
    by_cases h2 : r.length < c.toNat
    · rw [if_pos h2] at h; exact absurd h (by decide)
    · rw [if_neg h2] at h
      by_cases h3 : 60 < r.length - c.toNat
      · rw [if_pos h3] at h; exact absurd h (by decide)
      · have h4 : ¬ c.toNat < 1 := fun e => h1 (Or.inl e)
        have h5 : ¬ 60 < c.toNat := fun e => h1 (Or.inr e)
        omega
set_option maxHeartbeats 1000000 in
theorem getValue_ok (b : List UInt8) (w : World) (h : gvE b = 0) :
    Calls Tryz.prog 185 #[.string (B b)] w fun e w' => e = .returned (.tuple #[.string (B (gvV b)), .string (B (gvN b)), .int .i64 0]) ∧ Fr [] w w' := by
  cases b with
  | nil => exact absurd h (by decide)
  | cons c r =>
    obtain ⟨g1, g2, g3, g4⟩ := gv_good c r h
    have e1 : gvV (c :: r) = r.take c.toNat := by simp only [gvV]; rw [if_pos h]
    have e2 : gvN (c :: r) = r.drop c.toNat := by simp only [gvN]; rw [if_pos h]
    have k1 : ¬ (c.toNat : Int) < 1 := by omega
    have k2 : ¬ (60 : Int) < c.toNat := by omega
    have k3 : ¬ (r.length : Int) < c.toNat := by omega
    have k4 : ¬ (60 : Int) < (r.length : Int) - c.toNat := by omega
    have k5 : r.length ≤ 120 := by omega
    rw [e1, e2]
    obtain ⟨m, hm⟩ : ∃ m : Nat, 1 + c.toNat = m := ⟨_, rfl⟩
    have hmi : 1 + (c.toNat : Int) = (m : Int) := by omega
    have i1 : (1 : Int) ≤ (m : Int) := by omega
    have i2 : (m : Int) ≤ (r.length : Int) + 1 := by omega
    have i3 : m ≤ r.length + 1 := by omega
    have i4 : 1 ≤ m := by omega
    have i5 : (m : Int) ≤ ((r.length + 1 : Nat) : Int) := by omega
    have Hm := Lib.hid hm
    clear hm
    clear h e1 e2
    go_enter Tryz.func185, Tryz.ntmps185
    go_wp2_with fail
    have hG : Fr [] w w.drew := (Fr.refl [] w).drew
    go_region_held3 (fun w' => Fr [] w w') (first | exact hG | assumption | exact Fr.trans (by assumption) hF3)
      (first
        | (go_at_call 184; refine (clone_any _ _ (by rw [List.length_take]; omega)).mono ?_; rintro e w3 ⟨rfl, hF3⟩))
    all_goals
      have hfin : Fr [] w w3 := by assumption
      clear hG
      go_wp2_with fail
      go_ret3
      refine ⟨ret_tri _ _ _ _ _ _ ?_ ?_ rfl, hfin⟩
      · show Value.string (B (List.take (m - 1) r)) = _
        rw [← Hm.out, Nat.add_sub_cancel_left]
      · show Value.string (B (List.take (r.length + 1 - m) (List.drop m (c :: r)))) = _
        rw [← Hm.out, Nat.add_comm 1, List.drop_succ_cons, List.take_of_length_le (by rw [List.length_drop]; omega)]
theorem getValue_any (b : List UInt8) (w : World) (hb : b.length ≤ 140737488355328) :
    Calls Tryz.prog 185 #[.string (B b)] w fun e w' => e = .returned (.tuple #[.string (B (gvV b)), .string (B (gvN b)), .int .i64 (gvE b)]) ∧ Fr [] w w' := by
  by_cases h : gvE b = 0
  · rw [h]; exact getValue_ok b w h
  · have e1 : gvV b = [] := by cases b with | nil => rfl | cons c r => simp only [gvV]; rw [if_neg h]
    have e2 : gvN b = [] := by cases b with | nil => rfl | cons c r => simp only [gvN]; rw [if_neg h]
    rw [e1, e2]
    refine (getValue_bad b w hb h).mono ?_
    rintro e w' ⟨rfl, rfl⟩
    exact ⟨rfl, Fr.refl _ _⟩

theorem rputValue_any (v n : List UInt8) (w : World) (hv : v.length ≤ 140737488355328) (hn : n.length ≤ 140737488355328) :
    Calls Tryz.prog 188 #[.string (B v), .string (B n)] w fun e w' => e = .returned (.tuple #[.string (B (pvL v n)), .int .i64 (pvE v n)]) ∧ Fr [] w w' := by
  by_cases h1 : v.length < 1
  · have e0 : v = [] := List.eq_nil_of_length_eq_zero (by omega)
    subst e0
    have e1 : pvE [] n = 1 := rfl
    have e2 : pvL [] n = [] := rfl
    rw [e1, e2]
    clear e1 e2 h1
    go_enter Tryz.func188, Tryz.ntmps188
    go_wp2
    go_ret2
    exact ⟨rfl, Fr.refl _ _⟩
  · have hne : v ≠ [] := fun e => h1 (by rw [e]; decide)
    have h1' : ¬ (v.length : Int) < 1 := by omega
    by_cases h2 : 60 < v.length
    · have h2' : (60 : Int) < v.length := by omega
      have e1 : pvE v n = 1 := by unfold pvE; rw [if_pos (Or.inr h2)]
      have e2 : pvL v n = [] := by unfold pvL; rw [e1]; rfl
      rw [e1, e2]
      clear e1 e2 h1 h2 hne
      go_enter Tryz.func188, Tryz.ntmps188
      go_wp2
      go_ret2
      exact ⟨rfl, Fr.refl _ _⟩
    · have h2' : ¬ (60 : Int) < v.length := by omega
      by_cases h3 : 60 < n.length
      · have h3' : (60 : Int) < n.length := by omega
        have e1 : pvE v n = 2 := by unfold pvE; rw [if_neg (fun hh => hh.elim hne h2), if_pos h3]
        have e2 : pvL v n = [] := by unfold pvL; rw [e1]; rfl
        rw [e1, e2]
        clear e1 e2 h1 h2 hne h3
        go_enter Tryz.func188, Tryz.ntmps188
        go_wp2
        go_ret2
        exact ⟨rfl, Fr.refl _ _⟩
      · have h3' : ¬ (60 : Int) < n.length := by omega
        have e1 : pvE v n = 0 := by unfold pvE; rw [if_neg (fun hh => hh.elim hne h2), if_neg h3]
        have e2 : pvL v n = be 1 (v.length : Int) ++ (v ++ n) := by unfold pvL; rw [if_pos e1, be1_small v (by omega)]; unfold one; rw [List.append_assoc]
        rw [e1, e2]
        have b1 := be_length 1 (v.length : Int)
        have L1 := Lib.hid fun W => low_any (v.length : Int) 1 W (by omega) (by omega)
        obtain ⟨X, hX⟩ : ∃ X, be 1 (v.length : Int) = X := ⟨_, rfl⟩
        rw [hX] at b1 L1 ⊢
        clear e1 e2 h1 h2 hne h3 hX
        go_enter Tryz.func188, Tryz.ntmps188
        go_wp2_with fail
        refine (L1.out _).mono ?_
        rintro e w1 ⟨rfl, hF⟩
        go_wp2
        go_ret2
        exact ⟨rfl, hF⟩
theorem rgetValue_any (b : List UInt8) (w : World) (hb : b.length ≤ 140737488355328) :
    Calls Tryz.prog 187 #[.string (B b)] w fun e w' => e = .returned (.tuple #[.string (B (gvV b)), .string (B (gvN b)), .int .i64 (gvE b)]) ∧ Fr [] w w' := by
  cases b with
  | nil =>
    go_enter Tryz.func187, Tryz.ntmps187
    go_wp2
    go_ret3
    exact ⟨rfl, Fr.refl _ _⟩
  | cons c r =>
    have hcw : wrap64 (c.toNat : Int) = (c.toNat : Int) := by have := byte_bd c; unfold wrap64; omega
    have hb0 : r.length + 1 ≤ 140737488355328 := by simpa using hb
    by_cases h : gvE (c :: r) = 0
    · obtain ⟨g1, g2, g3, g4⟩ := gv_good c r h
      have e1 : gvV (c :: r) = r.take c.toNat := by simp only [gvV]; rw [if_pos h]
      have e2 : gvN (c :: r) = r.drop c.toNat := by simp only [gvN]; rw [if_pos h]
      rw [h, e1, e2]
      have k1 : ¬ (c.toNat : Int) < 1 := by omega
      have k2 : ¬ (60 : Int) < c.toNat := by omega
      have k3 : ¬ (r.length : Int) < c.toNat := by omega
      have k4 : ¬ (60 : Int) < (r.length : Int) - c.toNat := by omega
      have k5 : r.length ≤ 120 := by omega
      have i1 : (1 : Int) ≤ 1 + (c.toNat : Int) := by omega
      have i2 : 1 + (c.toNat : Int) ≤ (r.length : Int) + 1 := by omega
      have i5 : IntKind.i64.wrap (1 + (c.toNat : Int)) = 1 + (c.toNat : Int) := IntWalk.i64_in _ (by omega)
      have i3 : 1 + c.toNat ≤ r.length + 1 := by omega
      have i4 : 1 ≤ r.length + 1 := by omega
      clear h e1 e2 hb
      go_enter Tryz.func187, Tryz.ntmps187
      go_wp2
      go_quiet (fail)
      go_wp2
      go_ret3
      refine ⟨ret_tri _ _ _ _ _ _ ?_ ?_ rfl, (Fr.refl _ _).drewN _⟩
      · show Value.string (B (List.take (1 + c.toNat - 1) r)) = _
        rw [Nat.add_sub_cancel_left]
      · show Value.string (B (List.take (r.length + 1 - (1 + c.toNat)) (List.drop (1 + c.toNat) (c :: r)))) = _
        rw [Nat.add_comm 1, List.drop_succ_cons, List.take_of_length_le (by rw [List.length_drop]; omega)]
    · have e1 : gvV (c :: r) = [] := by simp only [gvV]; rw [if_neg h]
      have e2 : gvN (c :: r) = [] := by simp only [gvN]; rw [if_neg h]
      rw [e1, e2]
      clear e1 e2
      by_cases h1 : c.toNat < 1
      · have e1 : gvE (c :: r) = 1 := by simp only [gvE]; rw [if_pos (Or.inl h1)]
        have h1' : (c.toNat : Int) < 1 := by omega
        rw [e1]
        clear h e1 h1
        go_enter Tryz.func187, Tryz.ntmps187
        go_wp2
        go_ret3
        exact ⟨rfl, Fr.refl _ _⟩
      · have h1' : ¬ (c.toNat : Int) < 1 := by omega
        by_cases h2 : 60 < c.toNat
        · have e1 : gvE (c :: r) = 1 := by simp only [gvE]; rw [if_pos (Or.inr h2)]
          have h2' : (60 : Int) < c.toNat := by omega
          rw [e1]
          clear h e1 h1 h2
          go_enter Tryz.func187, Tryz.ntmps187
          go_wp2
          go_ret3
          exact ⟨rfl, Fr.refl _ _⟩
        · have h2' : ¬ (60 : Int) < c.toNat := by omega
          by_cases h3 : r.length < c.toNat
          · have e1 : gvE (c :: r) = 5 := by simp only [gvE]; rw [if_neg (fun hh => hh.elim h1 h2), if_pos h3]
            have h3' : (r.length : Int) < c.toNat := by omega
            rw [e1]
            clear h e1 h1 h2 h3 hb
            go_enter Tryz.func187, Tryz.ntmps187
            go_wp2
            go_ret3
            exact ⟨rfl, Fr.refl _ _⟩
          · have h3' : ¬ (r.length : Int) < c.toNat := by omega
            have h4 : 60 < r.length - c.toNat := by
              simp only [gvE] at h
              rw [if_neg (fun hh => hh.elim h1 h2), if_neg h3] at h
              by_cases h4 : 60 < r.length - c.toNat
              · exact h4
              · rw [if_neg h4] at h; exact absurd rfl h
            have e1 : gvE (c :: r) = 2 := by simp only [gvE]; rw [if_neg (fun hh => hh.elim h1 h2), if_neg h3, if_pos h4]
            have h4' : (60 : Int) < (r.length : Int) - c.toNat := by omega
            rw [e1]
            clear h e1 h1 h2 h3 hb h4
            go_enter Tryz.func187, Tryz.ntmps187
            go_wp2
            go_ret3
            exact ⟨rfl, Fr.refl _ _⟩
end Go.Proofs.YtfchbppfbepelaaGreat
