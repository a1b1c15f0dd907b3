/- The first call that the document fixes (chapter 3). -/
import Derived.Test.YtfchbppfbepelaaGreatClock6
import Derived.Test.YtfchbppfbepelaaGreatTape3
namespace Go.Proofs.YtfchbppfbepelaaGreat
open Go.RowKit Go.Maps
set_option linter.unusedVariables false
theorem alive_ks {ks : List Ky} (hp : ks.Perm (dks 5 [((1, 1), (5, 1)), ((1, 2), (3, 2))])) (hs : Sorted_ [((1, 1), (5, 1)), ((1, 2), (3, 2))] ks) : ks = [(1, 2), (1, 1)] := by
  refine tick_one (n := 0) (o := 2) ⟨by decide, by decide, by decide, by decide, by decide, by decide, by decide⟩ hp ?_ hs ?_
  · exact List.Perm.swap _ _ _
  · unfold Sorted_
    rw [List.pairwise_cons]
    refine ⟨fun y hy => ?_, by simp⟩
    simp at hy
    subst hy
    decide
set_option maxRecDepth 100000 in
set_option maxHeartbeats 8000000 in
theorem alive3 (w : World) : Calls Tryz.prog 66 #[] w fun e w' => e = .returned (.bool true) ∧ Fr [] w w' := by
  go_enter Tryz.func66, Tryz.ntmps66
  have hB0 := Blk.new w #[.int .i64 300, .int .i64 (-1)] 3
  have hF0 := (Fr.refl [] w).alloc (.cells #[.int .i64 300, .int .i64 (-1)] 3 (0, 0))
  have hR : Reads (w.alloc (.cells #[.int .i64 300, .int .i64 (-1)] 3 (0, 0))) (w.alloc (.cells #[.int .i64 300, .int .i64 (-1)] 3 (0, 0))).heap.size 1 (some ⟨w.heap.size, 0, none⟩) ([300, -1] : List Int).length (([300, -1] : List Int).map i64V) := by
    refine ⟨rfl, fun _ => ⟨_, rfl, by simp, fun j u hu => ?_⟩⟩
    have e : (⟨w.heap.size, 0, none⟩ : Addr).add j = ⟨w.heap.size, j, none⟩ := by unfold Addr.add; split <;> simp_all
    rw [e]
    exact hB0.c j u (by simpa [i64V] using hu)
  have TN := Lib.hid (tnew_any (c := 2) hR (by decide) (by unfold In64; decide))
  clear hB0 hR
  go_wp2_with fail
  refine TN.out.mono ?_
  rintro e w1 ⟨g, rfl, hg, hT, hF1⟩
  have hg' : w.heap.size ≤ g := by simp at hg; omega
  have HX := Lib.hid fun (y : Nat) (hy : y ∈ [g]) => show y ∈ ([] : List Nat) ∨ w.heap.size ≤ y by simp at hy; right; omega
  have hF2 := hF0.trans hF1
  have N1 := Lib.hid (tnext_any hT (n := 256) (by decide) (by decide) (by decide) (by decide))
  rw [show dv [300, -1] 0 256 = 44 by decide, show ([300, -1] : List Int).tail = [-1] from rfl, show nx [300, -1] 0 = 0 by decide] at N1
  clear TN hF0 hF1 hT hg
  go_wp2_with fail
  refine N1.out.mono ?_
  rintro e w2 ⟨rfl, hT, hG⟩
  have hF3 := hF2.sub hG HX.out
  have N2 := Lib.hid (tnext_any hT (n := 10) (by decide) (by decide) (by decide) (by decide))
  rw [show dv [-1] 0 10 = 9 by decide, show ([-1] : List Int).tail = [] from rfl, show nx [-1] 0 = 0 by decide] at N2
  clear N1 hF2 hT hG
  go_wp2_with fail
  refine N2.out.mono ?_
  rintro e w3 ⟨rfl, hT, hG⟩
  have hF4 := hF3.sub hG HX.out
  have N3 := Lib.hid (tnext_any hT (n := 10) (by decide) (by decide) (by decide) (by decide))
  rw [show dv [] 0 10 = 7 by decide] at N3
  clear N2 hF3 hT hG
  go_wp2_with fail
  refine N3.out.mono ?_
  rintro e w4 ⟨rfl, hT, hG⟩
  have hF5 := hF4.sub hG HX.out
  clear N3 hF4 hT hG
  go_wp2_with fail
  refine (new_clock _).mono ?_
  rintro e w5 ⟨c, rfl, hc, hC, hG⟩
  have hF6 := hF5.trans hG
  have hc' : w.heap.size ≤ c := Nat.le_trans hF5.size hc
  have S1 := Lib.hid (set_any (1, 1) 5 (by unfold KyOk In64; decide) hC (by decide) (by decide) (by decide) (by decide) (by decide))
  clear hF5 hG hC hc
  go_wp2_with fail
  refine S1.out.mono ?_
  rintro e w6 ⟨rfl, m1, hC, hG, hm1⟩
  have hF7 := hF6.sub hG (by intro y hy; simp at hy; right; omega)
  have hm1' : ∀ b, m1 = some b → w.heap.size ≤ b := fun b hb => by
    rcases hm1 with h | ⟨b', h, hb'⟩
    · rw [h] at hb; cases hb
    · rw [h] at hb; cases hb; exact Nat.le_trans hF6.size hb'
  have e1 : setE [] (1, 1) 5 = 0 := by decide
  have e2 : setO 0 [] (1, 1) 5 = 1 := by decide
  have e3 : setL 0 0 [] (1, 1) 5 = [((1, 1), (5, 1))] := by decide
  rw [e2, e3] at hC
  rw [e1]
  have S2 := Lib.hid (set_any (1, 2) 3 (by unfold KyOk In64; decide) hC (by decide) (by decide) (by decide) (by decide) (by decide))
  clear S1 hF6 hG hC hm1 e1 e2 e3
  go_wp2_with fail
  refine S2.out.mono ?_
  rintro e w7 ⟨rfl, m2, hC, hG, hm2⟩
  have hF8 := hF7.sub hG (by intro y hy; simp at hy; rcases hy with rfl | hy; (right; omega); (right; exact hm1' y hy))
  have hm2' : ∀ b, m2 = some b → w.heap.size ≤ b := fun b hb => by
    rcases hm2 with h | ⟨b', h, hb'⟩
    · rw [h] at hb; exact hm1' b hb
    · rw [h] at hb; cases hb; exact Nat.le_trans hF7.size hb'
  have e1 : setE [((1, 1), (5, 1))] (1, 2) 3 = 0 := by decide
  have e2 : setO 1 [((1, 1), (5, 1))] (1, 2) 3 = 2 := by decide
  have e3 : setL 0 1 [((1, 1), (5, 1))] (1, 2) 3 = [((1, 1), (5, 1)), ((1, 2), (3, 2))] := by decide
  rw [e2, e3] at hC
  rw [e1]
  have TK := Lib.hid (tick_any 5 hC (by decide) (by decide) (by decide) (by decide) (by decide))
  rw [show later 0 5 = 5 by decide] at TK
  clear S2 hF7 hG hC hm2 e1 e2 e3
  go_wp2_with fail
  refine TK.out.mono ?_
  rintro e w8 ⟨ks, A, cap, rfl, hp, hs, hr, hC, hG, _⟩
  obtain rfl := alive_ks hp hs
  rcases hr with hr | ⟨q, rfl, hq, hr⟩
  · cases hr
  have hF9 := hF8.sub hG (by intro y hy; simp at hy; rcases hy with rfl | hy; (right; omega); (right; exact hm2' y hy))
  have d1 : w8.cell? ⟨q, 1, none⟩ = some (.int .i64 2) := (hr 0 (1, 2) rfl 1 _ rfl).1
  have hl2 : ([((1 : Int), (2 : Int)), ((1 : Int), (1 : Int))] : List Ky).length = 2 := rfl
  have NW := Lib.hid (now_any hC)
  rw [hl2]
  clear TK hF8 hG hC hp hs hr hl2 hm1' hm2'
  go_wp2_with fail
  refine NW.out.mono ?_
  rintro e w9 ⟨rfl, rfl⟩
  go_wp2_with fail
  go_ret
  exact ⟨rfl, hF9⟩
end Go.Proofs.YtfchbppfbepelaaGreat
