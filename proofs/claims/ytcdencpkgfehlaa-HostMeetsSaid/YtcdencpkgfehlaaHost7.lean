/- host.New. -/
import Derived.Test.YtcdencpkgfehlaaHost6
namespace Go.Proofs.Ytcdencpkgfehlaa
open Go.RowKit
set_option linter.unusedVariables false
/-- a new host -/
def hs0 (m : Mc) (sv un : List UInt8) (rt wt : Int) : Hs := ⟨m, sv, un, rt, wt, 0, mc0, 0, 0, 0⟩
def NewP (w : World) (h : Hs) (e : Ending) (w' : World) : Prop := ∃ g, e = .returned (.tuple #[.pointer (some ⟨g, 0, none⟩), .int .i64 0]) ∧ w.heap.size ≤ g ∧ Blk w' g (hsC h (.slice none 0 0)) 92 ∧ Fr [] w w'
section
variable {w : World}
set_option maxRecDepth 100000 in
set_option maxHeartbeats 8000000 in
theorem hnew_ok (m : Mc) (sv un : List UInt8) (rt wt : Int) (h1 : sv.length ≤ 40) (h2 : un.length ≤ 40) (r0 : 0 ≤ rt) (r1 : rt ≤ 10) (w0 : 1 ≤ wt) (w1 : wt ≤ 100) :
    Calls Try.prog 14 #[.agg (mcL m).toArray, .string (B sv), .string (B un), .int .i64 rt, .int .i64 wt] w (NewP w (hs0 m sv un rt wt)) := by
  have T1 : Hid (∀ s W, s = B sv → Calls Try.prog 35 #[.string s] W fun e w' => e = .returned (.string (B sv)) ∧ Fr [] W w') := Lib.hid fun s W hs => by
    subst hs; exact clone_any sv W (by omega)
  have T2 : Hid (∀ s W, s = B un → Calls Try.prog 35 #[.string s] W fun e w' => e = .returned (.string (B un)) ∧ Fr [] W w') := Lib.hid fun s W hs => by
    subst hs; exact clone_any un W (by omega)
  have n1 : ¬ (40 : Int) < sv.length := by omega
  have n2 : ¬ (40 : Int) < un.length := by omega
  have n3 : ¬ rt < 0 := by omega
  have n4 : ¬ 10 < rt := by omega
  have n5 : ¬ wt < 1 := by omega
  have n6 : ¬ 100 < wt := by omega
  obtain ⟨k1, k2, k3, k4, k5, k6⟩ := m
  unfold mcL
  simp only
  have hF := (Fr.refl [] w).alloc (.cells #[.int .u8 k1, .int .u8 k2, .int .u8 k3, .int .u8 k4, .int .u8 k5, .int .u8 k6] 28 (0, 0))
  have hN := Blk.new w #[.int .u8 k1, .int .u8 k2, .int .u8 k3, .int .u8 k4, .int .u8 k5, .int .u8 k6] 28
  go_enter Try.func14, Try.ntmps14
  go_wp2_with fail
  obtain ⟨q, hq⟩ : ∃ q, w.heap.size = q := ⟨_, rfl⟩
  obtain ⟨W3, hW3⟩ : ∃ W, w.alloc (.cells #[.int .u8 k1, .int .u8 k2, .int .u8 k3, .int .u8 k4, .int .u8 k5, .int .u8 k6] 28 (0, 0)) = W := ⟨_, rfl⟩
  rw [hq] at hN ⊢
  rw [hW3] at hN hF ⊢
  have HF3 := Lib.hid hF
  have HQ := Lib.hid hq
  have HX : Hid (∀ W, Fr [] W3 W → (W.cell? ⟨q, 0, none⟩ = some (.int .u8 k1) ∧ W.cell? ⟨q, 1, none⟩ = some (.int .u8 k2) ∧ W.cell? ⟨q, 2, none⟩ = some (.int .u8 k3) ∧ W.cell? ⟨q, 3, none⟩ = some (.int .u8 k4) ∧ W.cell? ⟨q, 4, none⟩ = some (.int .u8 k5) ∧ W.cell? ⟨q, 5, none⟩ = some (.int .u8 k6)) ∧ Fr [] W3 W) := Lib.hid fun W hW => by
    have hb := hW.blk hN (by simp)
    exact ⟨⟨hb.c 0 _ rfl, hb.c 1 _ rfl, hb.c 2 _ rfl, hb.c 3 _ rfl, hb.c 4 _ rfl, hb.c 5 _ rfl⟩, hW⟩
  have hG0 := HX.out _ (Fr.refl [] W3).drew
  clear hq hW3 hN hF
  go_region_held3 (fun W => (W.cell? ⟨q, 0, none⟩ = some (.int .u8 k1) ∧ W.cell? ⟨q, 1, none⟩ = some (.int .u8 k2) ∧ W.cell? ⟨q, 2, none⟩ = some (.int .u8 k3) ∧ W.cell? ⟨q, 3, none⟩ = some (.int .u8 k4) ∧ W.cell? ⟨q, 4, none⟩ = some (.int .u8 k5) ∧ W.cell? ⟨q, 5, none⟩ = some (.int .u8 k6)) ∧ Fr [] W3 W)
    (first | exact hG0 | assumption | (refine HX.out _ (Fr.trans ?_ hF5); exact And.right (by assumption)) | (refine HX.out _ (Fr.trans ?_ hF6); exact And.right (by assumption)) | (refine HX.out _ (Fr.alloc ?_ _); exact And.right (by assumption)))
    (first
      | (go_at_call 35; refine (T1.out _ _ (by with_reducible rfl)).mono ?_; rintro e w5 ⟨rfl, hF5⟩)
      | (go_at_call 35; refine (T2.out _ _ (by with_reducible rfl)).mono ?_; rintro e w6 ⟨rfl, hF6⟩))
  all_goals
    have hF9 := ((Fr.refl [] W3).drew.trans hF5).trans hF6
    have HF9 := Lib.hid (HF3.out.trans hF9)
    clear hG0 hF9
    go_wp2_with fail
    go_ret2
    exact ⟨w6.heap.size, rfl, HF9.out.size, Blk.new w6 _ _, HF9.out.alloc _⟩
set_option maxRecDepth 100000 in
set_option maxHeartbeats 4000000 in
/-- Stop while it is not Live -/
theorem stop_off {g : Nat} {h : Hs} {ck : Value} (hw : h.wt ≠ 0) (hst : h.st ≠ 3) (hB : Blk w g (hsC h ck) 92) :
    Calls Try.prog 18 #[.pointer (some ⟨g, 0, none⟩)] w fun e w' => e = .returned (.slice none 0 0) ∧ Blk w' g (hsC (entered h 0) (.slice none 0 0)) 92 ∧ Fr [g] w w' := by
  have d10 : w.cell? ⟨g, 10, none⟩ = some (.int .i64 h.st) := hB.c 10 _ rfl
  have NO := Lib.hid (hnone_any hB)
  have hwt : (h.wt == 0) = false := by simpa using hw
  rw [hwt] at NO
  have n3 : (h.st == 3) = false := by simpa using hst
  have EN := Lib.hid (enter_off 0 (by decide) (by decide) hB)
  clear hwt hw hB hst
  go_enter Try.func18, Try.ntmps18
  go_wp2_with fail
  refine NO.out.mono ?_
  rintro e w1 ⟨rfl, rfl⟩
  go_wp2_with fail
  refine EN.out.mono ?_
  rintro e w2 ⟨rfl, hB2, hF2⟩
  have HX := Lib.hid (And.intro hB2 hF2)
  clear hB2 hF2 EN
  go_wp2_with fail
  go_ret
  exact ⟨rfl, HX.out.1, HX.out.2⟩
theorem start_nil : Calls Try.prog 15 #[.pointer none] w fun e w' => e = .returned (.slice none 0 0) ∧ w' = w := by
  go_enter Try.func15, Try.ntmps15
  go_wp2_with fail
  refine hnone_nil.mono ?_
  rintro e w1 ⟨rfl, rfl⟩
  go_wp2_with fail
  go_ret
  exact ⟨rfl, rfl⟩
theorem stop_nil : Calls Try.prog 18 #[.pointer none] w fun e w' => e = .returned (.slice none 0 0) ∧ w' = w := by
  go_enter Try.func18, Try.ntmps18
  go_wp2_with fail
  refine hnone_nil.mono ?_
  rintro e w1 ⟨rfl, rfl⟩
  go_wp2_with fail
  go_ret
  exact ⟨rfl, rfl⟩
theorem tick_nil : Calls Try.prog 17 #[.pointer none] w fun e w' => e = .returned (.slice none 0 0) ∧ w' = w := by
  go_enter Try.func17, Try.ntmps17
  go_wp2_with fail
  refine hnone_nil.mono ?_
  rintro e w1 ⟨rfl, rfl⟩
  go_wp2_with fail
  go_ret
  exact ⟨rfl, rfl⟩
end
end Go.Proofs.Ytcdencpkgfehlaa
