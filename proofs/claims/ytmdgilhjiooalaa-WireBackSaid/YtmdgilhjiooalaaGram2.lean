/- Datagrams read. -/
import Derived.Test.YtmdgilhjiooalaaGram
namespace Go.Proofs.Ytmdgilhjiooalaa
open Go.RowKit
set_option linter.unusedVariables false

theorem num_i (l : List UInt8) (v : Int) (w : World) (h0 : 0 ≤ v) (hk : v + 2 ≤ l.length) (hl : l.length ≤ 1000000) :
    Calls Try.prog 52 #[.string (B l), .int .i64 v] w fun e w' => e = .returned (.int .i64 (getV l v.toNat 2)) ∧ w = w' := by
  obtain ⟨k, rfl⟩ : ∃ k : Nat, v = k := ⟨v.toNat, by omega⟩
  exact num_w l k w (by omega) hl
theorem num_p (l : List UInt8) (v : Int) (w : World) (h0 : 0 ≤ v) (hk : v + 2 ≤ l.length) (hl : l.length ≤ 1000000) :
    Calls Try.prog 52 #[.string (B l), .int .i64 v] w fun e w' => e = .returned (.int .i64 (getV l v.toNat 2)) ∧ Fr [] w w' := by
  refine (num_i l v w h0 hk hl).mono ?_
  rintro e w' ⟨rfl, rfl⟩
  exact ⟨rfl, Fr.refl _ _⟩
theorem num_q (l : List UInt8) (v : Int) (w : World) (h0 : 0 ≤ v) (hk : v + 2 ≤ l.length) (hl : l.length ≤ 1000000) :
    Calls Try.prog 54 #[.string (B l), .int .i64 v] w fun e w' => e = .returned (.int .i64 (getV l v.toNat 2)) ∧ Fr [] w w' := by
  obtain ⟨k, rfl⟩ : ∃ k : Nat, v = k := ⟨v.toNat, by omega⟩
  refine (num_r l k w (by omega) hl).mono ?_
  rintro e w' ⟨rfl, n, rfl⟩
  exact ⟨rfl, (Fr.refl _ _).drewN n⟩

theorem st3 {w : World} {g T : Nat} {x y z : Value} (h : Blk w g #[x, y, z] T) (a b : Value) :
    w.cell? ⟨g, 0, none⟩ = some x ∧ w.frozen? ⟨g, 0, none⟩ = false ∧ (w.setCell ⟨g, 0, none⟩ a).cell? ⟨g, 1, none⟩ = some y ∧ (w.setCell ⟨g, 0, none⟩ a).frozen? ⟨g, 1, none⟩ = false ∧
    ((w.setCell ⟨g, 0, none⟩ a).setCell ⟨g, 1, none⟩ b).cell? ⟨g, 2, none⟩ = some z ∧ ((w.setCell ⟨g, 0, none⟩ a).setCell ⟨g, 1, none⟩ b).frozen? ⟨g, 2, none⟩ = false :=
  ⟨h.c 0 x rfl, h.fz 0, (h.set 0 a).c 1 y rfl, (h.set 0 a).fz 1, ((h.set 0 a).set 1 b).c 2 z rfl, ((h.set 0 a).set 1 b).fz 2⟩
theorem en3 {w0 w : World} {g T : Nat} {x y z : Value} (h : Blk w g #[x, y, z] T) (hF : Fr [] w0 w) (hg : w0.heap.size ≤ g) (a b c : Value) :
    Fr [] w0 (((w.setCell ⟨g, 0, none⟩ a).setCell ⟨g, 1, none⟩ b).setCell ⟨g, 2, none⟩ c) ∧ (w.setCell ⟨g, 0, none⟩ a).cell? ⟨g, 0, none⟩ = some a ∧
    ((w.setCell ⟨g, 0, none⟩ a).setCell ⟨g, 1, none⟩ b).cell? ⟨g, 1, none⟩ = some b ∧ (((w.setCell ⟨g, 0, none⟩ a).setCell ⟨g, 1, none⟩ b).setCell ⟨g, 2, none⟩ c).cell? ⟨g, 2, none⟩ = some c :=
  ⟨((hF.setNew (p := ⟨g, 0, none⟩) hg a).setNew (p := ⟨g, 1, none⟩) hg b).setNew (p := ⟨g, 2, none⟩) hg c, (h.set 0 a).c 0 a rfl, ((h.set 0 a).set 1 b).c 1 b rfl, (((h.set 0 a).set 1 b).set 2 c).c 2 c rfl⟩

def gmE (l : List UInt8) : Int := if unsE l ≠ 0 then unsE l else if (unsL l).length < 6 then 5 else if 1500 < getV (unsL l) 4 2 then 2 else if getV (unsL l) 4 2 ≠ ((unsL l).length : Int) - 6 then 4 else 0
def gmV (l : List UInt8) : Value := if gmE l = 0 then .agg #[.int .i64 (getV (unsL l) 0 2), .int .i64 (getV (unsL l) 2 2), .string (B ((unsL l).drop 6))] else .agg #[.int .i64 0, .int .i64 0, .string (B [])]
theorem unsL_le (l : List UInt8) : (unsL l).length ≤ l.length := by
  unfold unsL; split
  · simp
  · simp

theorem getgram_any (l : List UInt8) (w : World) (hl : l.length ≤ 1000000) :
    Calls Try.prog 36 #[.string (B l)] w fun e w' => e = .returned (.tuple #[gmV l, .int .i64 (gmE l)]) ∧ Fr [] w w' := by
  have hml := unsL_le l
  by_cases h0 : unsE l = 0
  case neg =>
    have e : gmE l = unsE l := by unfold gmE; rw [if_pos h0]
    have e' : gmV l = .agg #[.int .i64 0, .int .i64 0, .string (B [])] := by unfold gmV; rw [e, if_neg h0]
    have hb : (unsE l == 0) = false := by rw [beq_eq_false_iff_ne]; exact h0
    rw [e, e']; clear e e' h0
    go_enter Try.func36, Try.ntmps36
    go_wp2_with fail
    refine (unseal_any l _ hl).mono ?_
    rintro e w1 ⟨rfl, hF⟩
    have hB := hF.blk (Blk.new w #[.int .i64 0, .int .i64 0, .string (B [])] 45) (by simp)
    replace hF := ((Fr.refl _ w).alloc _).trans hF
    have hz := st3 hB (.int .i64 0) (.int .i64 0)
    have hq := en3 hB hF (Nat.le_refl _) (.int .i64 0) (.int .i64 0) (.string ⟨#[]⟩)
    clear hB hF
    go_wp2
    refine bodyPost_ret (v := .tuple #[.agg #[.int .i64 0, .int .i64 0, .string ⟨#[]⟩], .int .i64 (unsE l)]) (by simp [results, Try.results36, go_sem, hq]) rfl ?_
    exact ⟨rfl, hq.1⟩
  case pos =>
  have HE : Hid (unsE l = 0) := h0
  obtain ⟨m, hm⟩ : ∃ m, unsL l = m := ⟨_, rfl⟩
  have hgE : gmE l = if m.length < 6 then 5 else if 1500 < getV m 4 2 then 2 else if getV m 4 2 ≠ (m.length : Int) - 6 then 4 else 0 := by unfold gmE; rw [if_neg (by simp [h0]), hm]
  have hgV : gmV l = if gmE l = 0 then .agg #[.int .i64 (getV m 0 2), .int .i64 (getV m 2 2), .string (B (m.drop 6))] else .agg #[.int .i64 0, .int .i64 0, .string (B [])] := by unfold gmV; rw [hm]
  rw [hm] at hml
  by_cases h1 : m.length < 6
  case pos =>
    have e : gmE l = 5 := by rw [hgE, if_pos h1]
    have e' : gmV l = .agg #[.int .i64 0, .int .i64 0, .string (B [])] := by rw [hgV, e]; rfl
    have h1' : (m.length : Int) < 6 := by omega
    rw [e, e']; clear e e' hgE hgV h1 h0
    go_enter Try.func36, Try.ntmps36
    go_wp2_with fail
    refine (unseal_any l _ hl).mono ?_
    rw [HE.out, hm]
    rintro e w1 ⟨rfl, hF⟩
    have hB := hF.blk (Blk.new w #[.int .i64 0, .int .i64 0, .string (B [])] 45) (by simp)
    replace hF := ((Fr.refl _ w).alloc _).trans hF
    have hz := st3 hB (.int .i64 0) (.int .i64 0)
    have hq := en3 hB hF (Nat.le_refl _) (.int .i64 0) (.int .i64 0) (.string ⟨#[]⟩)
    clear hB hF
    go_wp2
    refine bodyPost_ret (v := .tuple #[.agg #[.int .i64 0, .int .i64 0, .string ⟨#[]⟩], .int .i64 5]) (by simp [results, Try.results36, go_sem, hq]) rfl ?_
    exact ⟨rfl, hq.1⟩
  have h1' : ¬ (m.length : Int) < 6 := by omega
  have H1 : Hid (¬ m.length < 6) := h1
  by_cases h2 : 1500 < getV m 4 2
  case pos =>
    have e : gmE l = 2 := by rw [hgE, if_neg h1, if_pos h2]
    have e' : gmV l = .agg #[.int .i64 0, .int .i64 0, .string (B [])] := by rw [hgV, e]; rfl
    rw [e, e']; clear e e' hgE hgV h1 h0
    go_enter Try.func36, Try.ntmps36
    go_wp2_with fail
    refine (unseal_any l _ hl).mono ?_
    rw [HE.out, hm]
    rintro e w1 ⟨rfl, hF⟩
    have hB := hF.blk (Blk.new w #[.int .i64 0, .int .i64 0, .string (B [])] 45) (by simp)
    replace hF := ((Fr.refl _ w).alloc _).trans hF
    go_wp2_with fail
    refine (num_i m 4 _ (by omega) (by omega) (by omega)).mono ?_
    rintro e w2 ⟨rfl, rfl⟩
    rw [show Int.toNat 4 = 4 from rfl]
    have hz := st3 hB (.int .i64 0) (.int .i64 0)
    have hq := en3 hB hF (Nat.le_refl _) (.int .i64 0) (.int .i64 0) (.string ⟨#[]⟩)
    clear hB hF
    go_wp2
    refine bodyPost_ret (v := .tuple #[.agg #[.int .i64 0, .int .i64 0, .string ⟨#[]⟩], .int .i64 2]) (by simp [results, Try.results36, go_sem, hq]) rfl ?_
    exact ⟨rfl, hq.1⟩
  by_cases h3 : getV m 4 2 = (m.length : Int) - 6
  case neg =>
    have e : gmE l = 4 := by rw [hgE, if_neg h1, if_neg h2, if_pos h3]
    have e' : gmV l = .agg #[.int .i64 0, .int .i64 0, .string (B [])] := by rw [hgV, e]; rfl
    have hb : (getV m 4 2 == (m.length : Int) - 6) = false := by rw [beq_eq_false_iff_ne]; exact h3
    rw [e, e']; clear e e' hgE hgV h1 h0 h3
    go_enter Try.func36, Try.ntmps36
    go_wp2_with fail
    refine (unseal_any l _ hl).mono ?_
    rw [HE.out, hm]
    rintro e w1 ⟨rfl, hF⟩
    have hB := hF.blk (Blk.new w #[.int .i64 0, .int .i64 0, .string (B [])] 45) (by simp)
    replace hF := ((Fr.refl _ w).alloc _).trans hF
    go_wp2_with fail
    refine (num_i m 4 _ (by omega) (by omega) (by omega)).mono ?_
    rintro e w2 ⟨rfl, rfl⟩
    rw [show Int.toNat 4 = 4 from rfl]

    go_wp2_with fail
    refine (num_i m 4 _ (by omega) (by omega) (by omega)).mono ?_
    rintro e w2 ⟨rfl, rfl⟩
    rw [show Int.toNat 4 = 4 from rfl]
    have hz := st3 hB (.int .i64 0) (.int .i64 0)
    have hq := en3 hB hF (Nat.le_refl _) (.int .i64 0) (.int .i64 0) (.string ⟨#[]⟩)
    clear hB hF
    go_wp2
    refine bodyPost_ret (v := .tuple #[.agg #[.int .i64 0, .int .i64 0, .string ⟨#[]⟩], .int .i64 4]) (by simp [results, Try.results36, go_sem, hq]) rfl ?_
    exact ⟨rfl, hq.1⟩
  case pos =>
    have e : gmE l = 0 := by rw [hgE, if_neg h1, if_neg h2, if_neg (by simp [h3])]
    have e' : gmV l = .agg #[.int .i64 (getV m 0 2), .int .i64 (getV m 2 2), .string (B (m.drop 6))] := by rw [hgV, e]; rfl
    have hb : (getV m 4 2 == (m.length : Int) - 6) = true := by rw [beq_iff_eq]; exact h3
    have hd : (m.drop 6).take (m.length - 6) = m.drop 6 := List.take_of_length_le (by simp)
    have i6 : (6 : Int) ≤ m.length := by omega
    rw [e, e']; clear e e' hgE hgV h1 h0 h3
    go_enter Try.func36, Try.ntmps36
    go_wp2_with fail
    refine (unseal_any l _ hl).mono ?_
    rw [HE.out, hm]
    rintro e w1 ⟨rfl, hF⟩
    have hB := hF.blk (Blk.new w #[.int .i64 0, .int .i64 0, .string (B [])] 45) (by simp)
    replace hF := ((Fr.refl _ w).alloc _).trans hF
    go_wp2_with fail
    refine (num_i m 4 _ (by omega) (by omega) (by omega)).mono ?_
    rintro e w2 ⟨rfl, rfl⟩
    rw [show Int.toNat 4 = 4 from rfl]

    go_wp2_with fail
    refine (num_i m 4 _ (by omega) (by omega) (by omega)).mono ?_
    rintro e w2 ⟨rfl, rfl⟩
    rw [show Int.toNat 4 = 4 from rfl]

    go_wp2_with fail
    go_region_with (first | (go_at_call 52; refine (num_p _ _ _ (by decide) (by omega) (by omega)).mono ?_; first | (rintro e w5 ⟨rfl, hF5⟩; have hB5 := hF5.blk hB4 (by simp); have hz := st3 hB5 (.int .i64 (getV m 0 2)) (.int .i64 (getV m 2 2)); have hq := en3 hB5 ((hF.drew.trans hF4).trans hF5) (Nat.le_refl _) (.int .i64 (getV m 0 2)) (.int .i64 (getV m 2 2)) (.string (B (m.drop 6)))) | (rintro e w4 ⟨rfl, hF4⟩; have hB4 := hF4.blk hB.drew (by simp)); first | rw [show Int.toNat 0 = 0 from rfl] | rw [show Int.toNat 2 = 2 from rfl]))
    all_goals go_wp2
    all_goals (refine bodyPost_ret (v := .tuple #[.agg #[.int .i64 (getV m 0 2), .int .i64 (getV m 2 2), .string (B (m.drop 6))], .int .i64 0]) (by simp [results, Try.results36, go_sem, hq]) rfl ?_)
    all_goals exact ⟨rfl, hq.1⟩

theorem rgetgram_any (l : List UInt8) (w : World) (hl : l.length ≤ 1000000) :
    Calls Try.prog 44 #[.string (B l)] w fun e w' => e = .returned (.tuple #[gmV l, .int .i64 (gmE l)]) ∧ Fr [] w w' := by
  have hml := unsL_le l
  by_cases h0 : unsE l = 0
  case neg =>
    have e : gmE l = unsE l := by unfold gmE; rw [if_pos h0]
    have e' : gmV l = .agg #[.int .i64 0, .int .i64 0, .string (B [])] := by unfold gmV; rw [e, if_neg h0]
    have hb : (unsE l == 0) = false := by rw [beq_eq_false_iff_ne]; exact h0
    rw [e, e']; clear e e' h0
    go_enter Try.func44, Try.ntmps44
    go_wp2_with fail
    refine (runseal_any l _ hl).mono ?_
    rintro e w1 ⟨rfl, hF⟩
    have hB := hF.blk (Blk.new w #[.int .i64 0, .int .i64 0, .string (B [])] 45) (by simp)
    replace hF := ((Fr.refl _ w).alloc _).trans hF
    have hz := st3 hB (.int .i64 0) (.int .i64 0)
    have hq := en3 hB hF (Nat.le_refl _) (.int .i64 0) (.int .i64 0) (.string ⟨#[]⟩)
    clear hB hF
    go_wp2
    refine bodyPost_ret (v := .tuple #[.agg #[.int .i64 0, .int .i64 0, .string ⟨#[]⟩], .int .i64 (unsE l)]) (by simp [results, Try.results44, go_sem, hq]) rfl ?_
    exact ⟨rfl, hq.1⟩
  case pos =>
  have HE : Hid (unsE l = 0) := h0
  obtain ⟨m, hm⟩ : ∃ m, unsL l = m := ⟨_, rfl⟩
  have hgE : gmE l = if m.length < 6 then 5 else if 1500 < getV m 4 2 then 2 else if getV m 4 2 ≠ (m.length : Int) - 6 then 4 else 0 := by unfold gmE; rw [if_neg (by simp [h0]), hm]
  have hgV : gmV l = if gmE l = 0 then .agg #[.int .i64 (getV m 0 2), .int .i64 (getV m 2 2), .string (B (m.drop 6))] else .agg #[.int .i64 0, .int .i64 0, .string (B [])] := by unfold gmV; rw [hm]
  rw [hm] at hml
  by_cases h1 : m.length < 6
  case pos =>
    have e : gmE l = 5 := by rw [hgE, if_pos h1]
    have e' : gmV l = .agg #[.int .i64 0, .int .i64 0, .string (B [])] := by rw [hgV, e]; rfl
    have h1' : (m.length : Int) < 6 := by omega
    rw [e, e']; clear e e' hgE hgV h1 h0
    go_enter Try.func44, Try.ntmps44
    go_wp2_with fail
    refine (runseal_any l _ hl).mono ?_
    rw [HE.out, hm]
    rintro e w1 ⟨rfl, hF⟩
    have hB := hF.blk (Blk.new w #[.int .i64 0, .int .i64 0, .string (B [])] 45) (by simp)
    replace hF := ((Fr.refl _ w).alloc _).trans hF
    have hz := st3 hB (.int .i64 0) (.int .i64 0)
    have hq := en3 hB hF (Nat.le_refl _) (.int .i64 0) (.int .i64 0) (.string ⟨#[]⟩)
    clear hB hF
    go_wp2
    refine bodyPost_ret (v := .tuple #[.agg #[.int .i64 0, .int .i64 0, .string ⟨#[]⟩], .int .i64 5]) (by simp [results, Try.results44, go_sem, hq]) rfl ?_
    exact ⟨rfl, hq.1⟩
  have h1' : ¬ (m.length : Int) < 6 := by omega
  have H1 : Hid (¬ m.length < 6) := h1
  by_cases h2 : 1500 < getV m 4 2
  case pos =>
    have e : gmE l = 2 := by rw [hgE, if_neg h1, if_pos h2]
    have e' : gmV l = .agg #[.int .i64 0, .int .i64 0, .string (B [])] := by rw [hgV, e]; rfl
    rw [e, e']; clear e e' hgE hgV h1 h0
    go_enter Try.func44, Try.ntmps44
    go_wp2_with fail
    refine (runseal_any l _ hl).mono ?_
    rw [HE.out, hm]
    rintro e w1 ⟨rfl, hF⟩
    have hB := hF.blk (Blk.new w #[.int .i64 0, .int .i64 0, .string (B [])] 45) (by simp)
    replace hF := ((Fr.refl _ w).alloc _).trans hF
    go_wp2_with fail
    refine (num_q m 4 _ (by omega) (by omega) (by omega)).mono ?_
    rintro e w2 ⟨rfl, hF2⟩
    rw [show Int.toNat 4 = 4 from rfl]
    replace hB := hF2.blk hB (by simp)
    replace hF := hF.trans hF2
    clear hF2
    have hz := st3 hB (.int .i64 0) (.int .i64 0)
    have hq := en3 hB hF (Nat.le_refl _) (.int .i64 0) (.int .i64 0) (.string ⟨#[]⟩)
    clear hB hF
    go_wp2
    refine bodyPost_ret (v := .tuple #[.agg #[.int .i64 0, .int .i64 0, .string ⟨#[]⟩], .int .i64 2]) (by simp [results, Try.results44, go_sem, hq]) rfl ?_
    exact ⟨rfl, hq.1⟩
  by_cases h3 : getV m 4 2 = (m.length : Int) - 6
  case neg =>
    have e : gmE l = 4 := by rw [hgE, if_neg h1, if_neg h2, if_pos h3]
    have e' : gmV l = .agg #[.int .i64 0, .int .i64 0, .string (B [])] := by rw [hgV, e]; rfl
    have hb : (getV m 4 2 == (m.length : Int) - 6) = false := by rw [beq_eq_false_iff_ne]; exact h3
    rw [e, e']; clear e e' hgE hgV h1 h0 h3
    go_enter Try.func44, Try.ntmps44
    go_wp2_with fail
    refine (runseal_any l _ hl).mono ?_
    rw [HE.out, hm]
    rintro e w1 ⟨rfl, hF⟩
    have hB := hF.blk (Blk.new w #[.int .i64 0, .int .i64 0, .string (B [])] 45) (by simp)
    replace hF := ((Fr.refl _ w).alloc _).trans hF
    go_wp2_with fail
    refine (num_q m 4 _ (by omega) (by omega) (by omega)).mono ?_
    rintro e w2 ⟨rfl, hF2⟩
    rw [show Int.toNat 4 = 4 from rfl]
    replace hB := hF2.blk hB (by simp)
    replace hF := hF.trans hF2
    clear hF2

    go_wp2_with fail
    refine (num_q m 4 _ (by omega) (by omega) (by omega)).mono ?_
    rintro e w3 ⟨rfl, hF3⟩
    rw [show Int.toNat 4 = 4 from rfl]
    replace hB := hF3.blk hB (by simp)
    replace hF := hF.trans hF3
    clear hF3
    have hz := st3 hB (.int .i64 0) (.int .i64 0)
    have hq := en3 hB hF (Nat.le_refl _) (.int .i64 0) (.int .i64 0) (.string ⟨#[]⟩)
    clear hB hF
    go_wp2
    refine bodyPost_ret (v := .tuple #[.agg #[.int .i64 0, .int .i64 0, .string ⟨#[]⟩], .int .i64 4]) (by simp [results, Try.results44, go_sem, hq]) rfl ?_
    exact ⟨rfl, hq.1⟩
  case pos =>
    have e : gmE l = 0 := by rw [hgE, if_neg h1, if_neg h2, if_neg (by simp [h3])]
    have e' : gmV l = .agg #[.int .i64 (getV m 0 2), .int .i64 (getV m 2 2), .string (B (m.drop 6))] := by rw [hgV, e]; rfl
    have hb : (getV m 4 2 == (m.length : Int) - 6) = true := by rw [beq_iff_eq]; exact h3
    have hd : (m.drop 6).take (m.length - 6) = m.drop 6 := List.take_of_length_le (by simp)
    have i6 : (6 : Int) ≤ m.length := by omega
    rw [e, e']; clear e e' hgE hgV h1 h0 h3
    go_enter Try.func44, Try.ntmps44
    go_wp2_with fail
    refine (runseal_any l _ hl).mono ?_
    rw [HE.out, hm]
    rintro e w1 ⟨rfl, hF⟩
    have hB := hF.blk (Blk.new w #[.int .i64 0, .int .i64 0, .string (B [])] 45) (by simp)
    replace hF := ((Fr.refl _ w).alloc _).trans hF
    go_wp2_with fail
    refine (num_q m 4 _ (by omega) (by omega) (by omega)).mono ?_
    rintro e w2 ⟨rfl, hF2⟩
    rw [show Int.toNat 4 = 4 from rfl]
    replace hB := hF2.blk hB (by simp)
    replace hF := hF.trans hF2
    clear hF2

    go_wp2_with fail
    refine (num_q m 4 _ (by omega) (by omega) (by omega)).mono ?_
    rintro e w3 ⟨rfl, hF3⟩
    rw [show Int.toNat 4 = 4 from rfl]
    replace hB := hF3.blk hB (by simp)
    replace hF := hF.trans hF3
    clear hF3

    go_wp2_with fail
    go_region_with (first | (go_at_call 54; refine (num_q _ _ _ (by decide) (by omega) (by omega)).mono ?_; first | (rintro e w5 ⟨rfl, hF5⟩; have hB5 := hF5.blk hB4 (by simp); have hz := st3 hB5 (.int .i64 (getV m 0 2)) (.int .i64 (getV m 2 2)); have hq := en3 hB5 ((hF.drew.trans hF4).trans hF5) (Nat.le_refl _) (.int .i64 (getV m 0 2)) (.int .i64 (getV m 2 2)) (.string (B (m.drop 6)))) | (rintro e w4 ⟨rfl, hF4⟩; have hB4 := hF4.blk hB.drew (by simp)); first | rw [show Int.toNat 0 = 0 from rfl] | rw [show Int.toNat 2 = 2 from rfl]))
    all_goals go_wp2
    all_goals (refine bodyPost_ret (v := .tuple #[.agg #[.int .i64 (getV m 0 2), .int .i64 (getV m 2 2), .string (B (m.drop 6))], .int .i64 0]) (by simp [results, Try.results44, go_sem, hq]) rfl ?_)
    all_goals exact ⟨rfl, hq.1⟩

end Go.Proofs.Ytmdgilhjiooalaa
