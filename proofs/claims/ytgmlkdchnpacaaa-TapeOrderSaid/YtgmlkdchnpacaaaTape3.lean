/- Draws: a new tape; rows that are lent. -/
import Derived.Test.YtgmlkdchnpacaaaTape2
import Derived.Test.YtgmlkdchnpacaaaTapeW
import Derived.Laws.Cover3
namespace Go.Proofs.Ytgmlkdchnpacaaa
open Go.RowKit
set_option linter.unusedVariables false
theorem infoInt : (Try.prog.info? 3).map (fun i => (i.zero, i.size, i.bytes)) = some (some (.int .i64 0), 1, 8) := by kernel_rfl
theorem one_i64 (xs : List Int) : ∀ u ∈ xs.map i64V, u.oneCell' = true := fun u hu => by
  obtain ⟨x, _, rfl⟩ := List.mem_map.1 hu
  rfl
section
variable {w : World} {A : Option Addr} {c : Nat} {xs : List Int}
set_option maxHeartbeats 4000000 in
theorem lent_any (hr : Reads w w.heap.size 1 A xs.length (xs.map i64V)) (hn : xs.length ≤ 1000000) :
    Calls Try.prog 16 #[.slice A xs.length c] w fun e w' => ∃ g cap, e = .returned (.slice (some ⟨g, 0, none⟩) xs.length cap) ∧ w'.ownsRow w.heap.size 3 1 (.slice (some ⟨g, 0, none⟩) (xs.length + 1) cap) (xs.length + 1) ((xs ++ [-77]).map i64V) ∧ Fr [] w w' := by
  obtain ⟨i0, hi, hz0, hz1, hz2⟩ := info_parts infoInt
  go_enter Try.func16, Try.ntmps16
  go_wp2_with (at_builtin; refine wpList_append_any _ rfl _ _ 39 rfl w.heap.size 3 i0 (.int .i64 0) 1 8 Try.underlying39 hi hz0 hz1 hz2 rfl (by decide) _ 0 [] rfl (World.ownsRow_nil _ _ _ _) w.heap.size A xs.length c (xs.map i64V) rfl hr (one_i64 xs) ?c3 ?c4 ?c5 ?_)
  case c3 => unfold maxLen; omega
  case c4 => omega
  case c5 => exact Nat.le_refl _
  intro v1 w1 hown1 hgr1 _
  have hF1 := (Fr.refl [] w).grown hgr1 (fun q hq => by cases hq)
  have hw1 := hF1.size
  clear hgr1 hr
  go_wp2_with (at_builtin; refine wpList_append_own _ rfl _ _ 39 rfl w.heap.size 3 i0 (.int .i64 0) 1 8 Try.underlying39 hi hz0 hz1 hz2 rfl (by decide) v1 xs.length (xs.map i64V) rfl (hown1.alloc _) ⟨w1.heap.size, 0, none⟩ 1 1 [.int .i64 (-77)] rfl rfl ?d1 ?d2 ?d3 ?d4 ?d5 ?_)
  case d1 => exact new_cells w1 [.int .i64 (-77)] 3
  case d2 => simp [Value.oneCell']
  case d3 => unfold maxLen; omega
  case d4 => omega
  case d5 => simp; omega
  intro v2 w2 hown2 hgr2 _
  have hF2 := (hF1.alloc (.cells #[.int .i64 (-77)] 3 (0, 0))).grown hgr2 (fun q hq => own_new hown1 q hq)
  obtain ⟨g, cap, hv, hg, hlt⟩ := hown2.form (by omega)
  subst hv
  have hcap : xs.length + 1 ≤ cap := by
    rcases hown2.2 with ⟨h1, _⟩ | ⟨g2, c2, cur, h1, _, _, h4, _⟩
    · cases h1
    · cases h1; exact h4
  have hle : xs.length ≤ cap := by omega
  have HO := Lib.hid hown2
  have HC := Lib.hid hcap
  clear hown1 hown2 hgr2 hF1 hcap
  go_wp2_with fail
  go_ret
  exact ⟨g, cap, rfl, by rw [List.map_append]; exact HO.out, hF2⟩
theorem own_cap {base cap n : Nat} {g : Nat} {w : World} {ys : List Value} (h : w.ownsRow base 3 1 (.slice (some ⟨g, 0, none⟩) n cap) n ys) : n ≤ cap ∧ cap ≤ maxLen := by
  rcases h.2 with ⟨h1, _⟩ | ⟨g2, c2, cur, h1, _, _, h4, h5, _⟩
  · cases h1
  · cases h1; exact ⟨h4, h5⟩
set_option maxHeartbeats 4000000 in
theorem clone_ints (hr : Reads w w.heap.size 1 A xs.length (xs.map i64V)) (hn : xs.length ≤ 1000000) :
    Calls Try.prog 29 #[.slice A xs.length c] w fun e w' => ∃ A' cap, e = .returned (.slice A' xs.length cap) ∧ Reads w' w'.heap.size 1 A' xs.length (xs.map i64V) ∧ xs.length ≤ cap ∧ cap ≤ maxLen ∧ (∀ ad, A' = some ad → w.heap.size ≤ ad.block) ∧ Fr [] w w' := by
  obtain ⟨i0, hi, hz0, hz1, hz2⟩ := info_parts infoInt
  have hq : ∀ (A : Option Addr) (n c : Nat) (W : World), (binOp .eql 39 (.slice A n c) (.slice none 0 0)).run Try.prog W = .ok (.bool A.isNone) W := fun A n c W => by
    simp only [binOp]
    simp [Op.equal, Op.maxDepth, run_equalIn_slice_nil W 9999 _ _ A n c Try.underlying39]
  cases A with
  | none =>
    have hx : xs = [] := by
      cases xs with
      | nil => rfl
      | cons x r =>
        obtain ⟨ad, h, _⟩ := hr.2 (by simp)
        cases h
    subst hx
    go_enter Try.func29, Try.ntmps29
    go_wp2
    go_ret
    exact ⟨none, 0, rfl, Reads.none_, by simp, by simp, by simp, Fr.refl _ _⟩
  | some ad =>
    go_enter Try.func29, Try.ntmps29
    go_wp2_with (at_builtin; refine wpList_append_any _ rfl _ _ 39 rfl w.heap.size 3 i0 (.int .i64 0) 1 8 Try.underlying39 hi hz0 hz1 hz2 rfl (by decide) _ 0 [] rfl (World.ownsRow_lit w #[] 0 (Nat.le_refl _) (by unfold maxLen; omega) rfl) w.heap.size (some ad) xs.length c (xs.map i64V) rfl (hr.alloc (Nat.le_refl _) _) (one_i64 xs) ?c3 ?c4 ?c5 ?_)
    case c3 => unfold maxLen; omega
    case c4 => omega
    case c5 => simp
    intro v1 w1 hown1 hgr1 _
    have hF1 := ((Fr.refl [] w).alloc (.cells #[] 3 (0, 0))).grown hgr1 (fun q hq => by cases hq; exact Nat.le_refl _)
    clear hgr1
    go_wp2_with fail
    go_ret
    have hX : ∃ A' cap, v1 = .slice A' xs.length cap ∧ xs.length ≤ cap ∧ cap ≤ maxLen ∧ ∀ ad, A' = some ad → w.heap.size ≤ ad.block := by
      rcases hown1.2 with ⟨h1, h2⟩ | ⟨g2, c2, cur, h1, h3, _, h4, h5, _⟩
      · exact ⟨none, 0, by rw [h1, h2], by omega, by simp, by simp⟩
      · exact ⟨_, _, h1, h4, h5, by intro ad e; cases e; exact h3⟩
    obtain ⟨A', cap, rfl, h1, h2, hlo⟩ := hX
    exact ⟨A', cap, rfl, Reads.of_own hown1, h1, h2, hlo, hF1⟩
set_option maxHeartbeats 4000000 in
theorem tnew_any (hr : Reads w w.heap.size 1 A xs.length (xs.map i64V)) (hn : xs.length ≤ 1000000) (hv : ∀ x, x ∈ xs → In64 x) :
    Calls Try.prog 17 #[.slice A xs.length c] w fun e w' => ∃ g, e = .returned (.pointer (some ⟨g, 0, none⟩)) ∧ w.heap.size ≤ g ∧ Tp w' 48 g w.heap.size g xs 0 ∧ Fr [] w w' := by
  have HC := Lib.hid (clone_ints (c := c) hr hn)
  go_enter Try.func17, Try.ntmps17
  go_wp2_with fail
  refine HC.out.mono ?_
  rintro e w1 ⟨A', cap, rfl, hr1, h1, h2, hlo, hF1⟩
  go_wp2_with fail
  go_ret
  have hr2 := hr1.alloc (Nat.le_refl _) (.cells #[.slice A' xs.length cap, .int .i64 0] 48 (0, 0))
  exact ⟨w1.heap.size, rfl, hF1.size, ⟨⟨A', cap, Blk.new w1 _ _, hr2, h1, h2, hlo⟩, Nat.le_refl _, hv⟩, hF1.alloc _⟩
/-- two rows that hold the same numbers are alike -/
theorem same_ints {B1 B2 : Nat} {A' : Option Addr} {c' : Nat} (h1 : Reads w B1 1 A xs.length (xs.map i64V)) (h2 : Reads w B2 1 A' xs.length (xs.map i64V)) (hn : xs.length ≤ 1000000) :
    Calls Try.prog 30 #[.slice A xs.length c, .slice A' xs.length c'] w fun e w' => e = .returned (.bool true) ∧ Fr [] w w' := by
  have H1 := Lib.hid h1
  have H2 := Lib.hid h2
  clear h1 h2
  go_enter Try.func30, Try.ntmps30
  go_wp2_with fail
  go_loopw [5] (fun iv wr => ∃ j : Nat, j ≤ xs.length ∧ iv = .int .i64 j ∧ ∃ N, wr = w.drewN N) (fun iv _ => xs.length - (intOf iv).toNat)
  case atStart => exact ⟨0, by omega, rfl, 0, rfl⟩
  case round =>
    obtain ⟨j, hj, rfl, N, rfl⟩ := hrel
    by_cases hlt : j < xs.length
    · obtain ⟨a1, u1, e1, hb1, hu1, hc1⟩ := H1.out.at_ hlt
      obtain ⟨a2, u2, e2, hb2, hu2, hc2⟩ := H2.out.at_ hlt
      rw [hu1] at hu2
      obtain rfl : u1 = u2 := by injection hu2
      rw [List.getElem?_map] at hu1
      cases hx : xs[j]? with
      | none => rw [hx] at hu1; cases hu1
      | some x =>
        rw [hx] at hu1
        simp [i64V] at hu1
        subst hu1 e1 e2
        clear hx hu2
        go_wp2_with fail
        go_quiet (fail)
        go_wp2_with fail
        go_roundw
        case rel => exact ⟨j + 1, by omega, by go_num, _, rfl⟩
        case measure => (simp [intOf]) <;> omega
    · obtain rfl : j = xs.length := by omega
      have hge : ¬ (xs.length : Int) < xs.length := by omega
      clear hlt hj
      go_wp2_with fail
      go_ret
      exact ⟨rfl, (Fr.refl _ _).drewN _⟩
set_option maxHeartbeats 4000000 in
/-- a row that was lent stays -/
theorem stays_ints {base g cap : Nat} {B2 : Nat} {A' : Option Addr} {c' : Nat} (h1 : w.ownsRow base 3 1 (.slice (some ⟨g, 0, none⟩) (xs.length + 1) cap) (xs.length + 1) ((xs ++ [-77]).map i64V)) (h2 : Reads w B2 1 A' xs.length (xs.map i64V)) (hn : xs.length ≤ 1000000) :
    Calls Try.prog 18 #[.slice (some ⟨g, 0, none⟩) xs.length cap, .slice A' xs.length c'] w fun e w' => e = .returned (.bool true) ∧ Fr [] w w' := by
  have hcap := own_cap h1
  have hr : Reads w (g + 1) 1 (some ⟨g, 0, none⟩) xs.length (xs.map i64V) := by
    refine ⟨by simp, fun _ => ⟨_, rfl, by simp, fun j u hu => ?_⟩⟩
    have e : (⟨g, 0, none⟩ : Addr).add j = ⟨g, j, none⟩ := by unfold Addr.add; split <;> simp_all
    have hj : j < xs.length := by have := (List.getElem?_eq_some_iff.1 hu).1; simpa using this
    rw [e, h1.cellAt j (by omega), List.map_append, List.getElem?_append_left (by simpa using hj)]
    exact hu
  have HS := Lib.hid (same_ints (c := cap) (c' := c') hr h2 hn)
  have hl : w.cell? ⟨g, xs.length, none⟩ = some (.int .i64 (-77)) := by
    rw [h1.cellAt xs.length (by omega), List.map_append, List.getElem?_append_right (by simp)]
    simp [i64V]
  have hlg : Hid (∀ W, Fr [] w W → W.cell? ⟨g, xs.length, none⟩ = some (.int .i64 (-77))) := Lib.hid fun W hF => by
    have : g < w.heap.size := cell_lt hl
    rw [World.cell?_of_block (hF.block g this (by simp))]
    exact hl
  obtain ⟨c1, c2⟩ := hcap
  unfold maxLen at c2
  clear h1 h2 hr hl
  go_enter Try.func18, Try.ntmps18
  go_wp2_with fail
  refine HS.out.mono ?_
  rintro e w1 ⟨rfl, hF1⟩
  have hl1 := hlg.out w1 hF1
  clear HS
  go_wp2_with fail
  go_ret
  exact ⟨rfl, hF1⟩
end
end Go.Proofs.Ytgmlkdchnpacaaa
