/- Draws: a new tape; rows that are lent. -/
import Derived.Test.YtfchbppfbepelaaGreatTape1
import Derived.Test.YtfchbppfbepelaaGreatTapeW
import Derived.Laws.Cover3
namespace Go.Proofs.YtfchbppfbepelaaGreat
open Go.RowKit
set_option linter.unusedVariables false
theorem infoInt : (Tryz.prog.info? 3).map (fun i => (i.zero, i.size, i.bytes)) = some (some (.int .i64 0), 1, 8) := by kernel_rfl
theorem one_i64 (xs : List Int) : ∀ u ∈ xs.map i64V, u.oneCell' = true := fun u hu => by
  obtain ⟨x, _, rfl⟩ := List.mem_map.1 hu
  rfl
section
variable {w : World} {A : Option Addr} {c : Nat} {xs : List Int}
theorem own_cap {base cap n : Nat} {g : Nat} {w : World} {ys : List Value} (h : w.ownsRow base 3 1 (.slice (some ⟨g, 0, none⟩) n cap) n ys) : n ≤ cap ∧ cap ≤ maxLen := by
  rcases h.2 with ⟨h1, _⟩ | ⟨g2, c2, cur, h1, _, _, h4, h5, _⟩
  · cases h1
  · cases h1; exact ⟨h4, h5⟩
set_option maxHeartbeats 4000000 in
theorem clone_ints (hr : Reads w w.heap.size 1 A xs.length (xs.map i64V)) (hn : xs.length ≤ 1000000) :
    Calls Tryz.prog 300 #[.slice A xs.length c] w fun e w' => ∃ A' cap, e = .returned (.slice A' xs.length cap) ∧ Reads w' w'.heap.size 1 A' xs.length (xs.map i64V) ∧ xs.length ≤ cap ∧ cap ≤ maxLen ∧ (∀ ad, A' = some ad → w.heap.size ≤ ad.block) ∧ Fr [] w w' := by
  obtain ⟨i0, hi, hz0, hz1, hz2⟩ := info_parts infoInt
  have hq : ∀ (A : Option Addr) (n c : Nat) (W : World), (binOp .eql 276 (.slice A n c) (.slice none 0 0)).run Tryz.prog W = .ok (.bool A.isNone) W := fun A n c W => by
    simp only [binOp]
    simp [Op.equal, Op.maxDepth, run_equalIn_slice_nil W 9999 _ _ A n c Tryz.underlying276]
  cases A with
  | none =>
    have hx : xs = [] := by
      cases xs with
      | nil => rfl
      | cons x r =>
        obtain ⟨ad, h, _⟩ := hr.2 (by simp)
        cases h
    subst hx
    go_enter Tryz.func300, Tryz.ntmps300
    go_wp2
    go_ret
    exact ⟨none, 0, rfl, Reads.none_, by simp, by simp, by simp, Fr.refl _ _⟩
  | some ad =>
    go_enter Tryz.func300, Tryz.ntmps300
    go_wp2_with (at_builtin; refine wpList_append_any _ rfl _ _ 276 rfl w.heap.size 3 i0 (.int .i64 0) 1 8 Tryz.underlying276 hi hz0 hz1 hz2 rfl (by decide) _ 0 [] rfl (World.ownsRow_lit w #[] 0 (Nat.le_refl _) (by unfold maxLen; omega) rfl) w.heap.size (some ad) xs.length c (xs.map i64V) rfl (hr.alloc (Nat.le_refl _) _) (one_i64 xs) ?c3 ?c4 ?c5 ?_)
    case c3 => unfold maxLen; omega
    case c4 => omega
    case c5 => simp
    intro v1 w1 hown1 hgr1 _
    have hF1 := ((Fr.refl [] w).alloc (.cells #[] 3 (0, 0))).grown hgr1 (fun q hq => by cases hq; exact Nat.le_refl _)
    clear hgr1
    go_wp2_with fail
    go_ret
    have hX : ∃ A' cap, v1 = .slice A' xs.length cap ∧ xs.length ≤ cap ∧ cap ≤ maxLen ∧ ∀ ad, A' = some ad → w.heap.size ≤ ad.block := by
      rcases hown1.2 with ⟨h1, h2⟩ | ⟨g2, c2, cur, h1, h3, _, h4, h5, _⟩
      · exact ⟨none, 0, by rw [h1, h2], by omega, by simp, by simp⟩
      · exact ⟨_, _, h1, h4, h5, by intro ad e; cases e; exact h3⟩
    obtain ⟨A', cap, rfl, h1, h2, hlo⟩ := hX
    exact ⟨A', cap, rfl, Reads.of_own hown1, h1, h2, hlo, hF1⟩
set_option maxHeartbeats 4000000 in
theorem tnew_any (hr : Reads w w.heap.size 1 A xs.length (xs.map i64V)) (hn : xs.length ≤ 1000000) (hv : ∀ x, x ∈ xs → In64 x) :
    Calls Tryz.prog 211 #[.slice A xs.length c] w fun e w' => ∃ g, e = .returned (.pointer (some ⟨g, 0, none⟩)) ∧ w.heap.size ≤ g ∧ Tp w' 395 g w.heap.size g xs 0 ∧ Fr [] w w' := by
  have HC := Lib.hid (clone_ints (c := c) hr hn)
  go_enter Tryz.func211, Tryz.ntmps211
  go_wp2_with fail
  refine HC.out.mono ?_
  rintro e w1 ⟨A', cap, rfl, hr1, h1, h2, hlo, hF1⟩
  go_wp2_with fail
  go_ret
  have hr2 := hr1.alloc (Nat.le_refl _) (.cells #[.slice A' xs.length cap, .int .i64 0] 395 (0, 0))
  exact ⟨w1.heap.size, rfl, hF1.size, ⟨⟨A', cap, Blk.new w1 _ _, hr2, h1, h2, hlo⟩, Nat.le_refl _, hv⟩, hF1.alloc _⟩
end
end Go.Proofs.YtfchbppfbepelaaGreat
