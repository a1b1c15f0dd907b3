/- package store: Set where there is no map yet; a nil store. -/
import Derived.Test.YtpljdnocdhppmaaKnow
import Derived.Test.YtpljdnocdhppmaaTakes
import Derived.Test.YtpljdnocdhppmaaRowK
namespace Go.Proofs.Ytpljdnocdhppmaa
open Go.RowKit Go.Maps
set_option linter.unusedVariables false
theorem delete_nil (w : World) (a b : List UInt8) (ha : a.length ≤ maxLen) (hb : b.length ≤ maxLen) :
    (Builtin.delete_ #[69, 24] 0 #[.map none, .agg #[.string (B a), .string (B b)]]).run Try.prog w = .ok (.tuple #[]) w := by
  obtain ⟨kl, hk⟩ := whoE.ok (a, b) ⟨ha, hb⟩
  have hk' : keyOf Try.prog 24 (.agg (whoC a b)) = some kl := hk
  unfold whoC at hk'
  simp [Builtin.delete_, run_underlying Try.underlying69, who_law.check w _ hk', Result.andThen]
section
variable {w : World} {g : Nat} {lim calm : Int} {L : List (Who × Nat)} {K : Nat → Kn}
set_option maxRecDepth 100000 in
set_option maxHeartbeats 2000000 in
theorem set_del_nil (f : List UInt8) (hf : f.length ≤ 60) (hL : L = []) (h : StoreIs w g lim calm none L K) :
    Calls Try.prog 25 #[.pointer (some ⟨g, 0, none⟩), .string (B f), .string (B [])] w fun e w' => e = .returned (.int .i64 0) ∧ Fr [] w w' := by
  subst hL
  have hsN := spN_le f
  have hsR := spR_le f
  have SP := Lib.hid fun W => split_any f W (by omega)
  obtain ⟨a, ha⟩ : ∃ a, spN f = a := ⟨_, rfl⟩
  obtain ⟨b, hb⟩ : ∃ a, spR f = a := ⟨_, rfl⟩
  rw [ha, hb] at SP
  rw [ha] at hsN
  rw [hb] at hsR
  unfold whoC at SP
  have H := Lib.hid h
  have h1 : ¬ (60 : Int) < f.length := by omega
  clear ha hb h
  go_enter Try.func25, Try.ntmps25
  go_wp2_with fail
  refine (SP.out _).mono ?_
  rintro e w1 ⟨rfl, hF1⟩
  have hF2 := hF1.alloc (.cells #[.string (B a), .string (B b)] 24 (0, 0))
  have hS2 := H.out.fr0 hF2
  have hlk : ∀ N, (Instr.lookup 69 (.map none) (.agg #[.string (B a), .string (B b)]) true).run Try.prog ((w1.alloc (.cells #[.string (B a), .string (B b)] 24 (0, 0))).drewN N) = .ok (lookOk none) ((w1.alloc (.cells #[.string (B a), .string (B b)] 24 (0, 0))).drewN N) :=
    fun N => (hS2.fr0 ((Fr.refl _ _).drewN N)).mapAt.look2 a b (by unfold maxLen; omega) (by unfold maxLen; omega)
  have c2 : (w1.alloc (.cells #[.string (B a), .string (B b)] 24 (0, 0))).cell? ⟨g, 2, none⟩ = some (.map none) := hS2.st.c 2 _ rfl
  unfold lookOk at hlk
  have HS2 := Lib.hid hS2
  clear hS2
  go_wp2
  go_quiet (fail)
  go_wp2
  obtain ⟨W, hW⟩ : ∃ W, (w1.alloc (.cells #[.string (B a), .string (B b)] 24 (0, 0))).drewN nq = W := ⟨_, rfl⟩
  have hSW := HS2.out.fr0 ((Fr.refl _ _).drewN nq)
  have hBq := (Blk.new w1 #[.string (B a), .string (B b)] 24).drewN nq
  have hFW := hF2.drewN nq
  rw [hW] at hSW hBq hFW ⊢
  obtain ⟨q, hq⟩ : ∃ q, w1.heap.size = q := ⟨_, rfl⟩
  rw [hq] at hBq ⊢
  clear hW hq hlk c2 HS2 hF2
  have hrun := delete_nil W.drew a b (by unfold maxLen; omega) (by unfold maxLen; omega)
  have c2 : W.cell? ⟨g, 2, none⟩ = some (.map none) := hSW.st.c 2 _ rfl
  have q0 := hBq.c 0 _ rfl
  have q1 := hBq.c 1 _ rfl
  clear hSW hBq
  go_region
  all_goals
    go_wp2_with fail
    go_ret
    exact ⟨rfl, hFW.drew⟩
set_option maxRecDepth 100000 in
theorem try_nil (f : List UInt8) (t : Int) (fv : Value) : Calls Try.prog 50 #[.pointer none, .string (B f), .int .i64 t, fv] w fun e w' => e = .returned (.int .i64 1) ∧ w' = w := by
  go_enter Try.func50, Try.ntmps50
  go_wp2_with fail
  go_ret
  exact ⟨rfl, rfl⟩
theorem set_nil (f s : List UInt8) : Calls Try.prog 25 #[.pointer none, .string (B f), .string (B s)] w fun e w' => e = .returned (.int .i64 1) ∧ Fr [] w w' := by
  go_enter Try.func25, Try.ntmps25
  go_wp2_with fail
  go_ret
  exact ⟨rfl, Fr.refl _ _⟩
theorem pap_nil (f s : List UInt8) (t : Int) : Calls Try.prog 26 #[.pointer none, .string (B f), .string (B s), .int .i64 t] w fun e w' => e = .returned (.int .i64 1) ∧ Fr [] w w' := by
  have hA : Fr [] w (w.alloc (.cells #[.string (B s)] 9 (0, 0))) := (Fr.refl _ _).alloc _
  have TA := Lib.hid fun W fv => try_nil (w := W) f t fv
  go_enter Try.func26, Try.ntmps26
  go_wp2_with fail
  refine (TA.out _ _).mono ?_
  rintro e w1 ⟨rfl, rfl⟩
  go_wp2
  go_ret
  exact ⟨rfl, hA⟩
theorem chap_nil (f v r : List UInt8) (id t : Int) : Calls Try.prog 36 #[.pointer none, .string (B f), .int .i64 id, .string (B v), .string (B r), .int .i64 t] w fun e w' => e = .returned (.int .i64 1) ∧ Fr [] w w' := by
  have hA := (((Fr.refl [] w).alloc (.cells #[.int .i64 id] 3 (0, 0))).alloc (.cells #[.string (B v)] 9 (0, 0))).alloc (.cells #[.string (B r)] 9 (0, 0))
  have TA := Lib.hid fun W fv => try_nil (w := W) f t fv
  go_enter Try.func36, Try.ntmps36
  go_wp2_with fail
  refine (TA.out _ _).mono ?_
  rintro e w1 ⟨rfl, rfl⟩
  go_wp2
  go_ret
  exact ⟨rfl, hA⟩
theorem len_nil : Calls Try.prog 28 #[.pointer none] w fun e w' => e = .returned (.int .i64 0) ∧ Fr [] w w' := by
  go_enter Try.func28, Try.ntmps28
  go_wp2_with fail
  go_ret
  exact ⟨rfl, Fr.refl _ _⟩
theorem wrong_nil (f : List UInt8) : Calls Try.prog 27 #[.pointer none, .string (B f)] w fun e w' => e = .returned (.int .i64 0) ∧ Fr [] w w' := by
  go_enter Try.func27, Try.ntmps27
  go_wp2_with fail
  refine wp_region_held_drew (S := (fun W => Fr [] w W)) (by kernel_rfl) ?_ (fun hHeld => ?_)
  · (try dsimp only); exact (Fr.refl [] w).drew
  refine take_yes 0 5 rfl rfl (by kernel_rfl) (by kernel_rfl) (by kernel_rfl) (fun _ _ _ h => h) (by rfl) (by assumption) (v := ?_) ?_ ?_
  rotate_left
  · intro w hSw; (try dsimp only at hSw); go_simp; (try with_reducible rfl)
  try simp only [Act.put, List.setIfInBounds_toArray, List.set_cons_zero, List.set_cons_succ]
  refine take_yes 1 6 rfl rfl (by kernel_rfl) (by kernel_rfl) (by kernel_rfl) (fun _ _ _ h => h) (by rfl) (by assumption) (v := ?_) ?_ ?_
  rotate_left
  · intro w hSw; (try dsimp only at hSw); go_simp; (try with_reducible rfl)
  try simp only [Act.put, List.setIfInBounds_toArray, List.set_cons_zero, List.set_cons_succ]
  refine take_yes 2 7 rfl rfl (by kernel_rfl) (by kernel_rfl) (by kernel_rfl) (fun _ _ _ h => h) (by rfl) (by assumption) (v := ?_) ?_ ?_
  rotate_left
  · intro w hSw; (try dsimp only at hSw); go_simp; (try with_reducible rfl)
  try simp only [Act.put, List.setIfInBounds_toArray, List.set_cons_zero, List.set_cons_succ]
  refine take_no 3 8 rfl rfl (by kernel_rfl) (by kernel_rfl) (by kernel_rfl) (fun _ _ _ h => h) (by rfl) (by assumption) ?_
  try simp only [Act.put, List.setIfInBounds_toArray, List.set_cons_zero, List.set_cons_succ]
  refine take_no 4 9 rfl rfl (by kernel_rfl) (by kernel_rfl) (by kernel_rfl) (fun _ _ _ h => h) (by rfl) (by assumption) ?_
  try simp only [Act.put, List.setIfInBounds_toArray, List.set_cons_zero, List.set_cons_succ]
  refine take_no 5 10 rfl rfl (by kernel_rfl) (by kernel_rfl) (by kernel_rfl) (fun _ _ _ h => h) (by rfl) (by assumption) ?_
  try simp only [Act.put, List.setIfInBounds_toArray, List.set_cons_zero, List.set_cons_succ]
  refine take_no 6 11 rfl rfl (by kernel_rfl) (by kernel_rfl) (by kernel_rfl) (fun _ _ _ h => h) (by rfl) (by assumption) ?_
  try simp only [Act.put, List.setIfInBounds_toArray, List.set_cons_zero, List.set_cons_succ]
  refine take_no 7 12 rfl rfl (by kernel_rfl) (by kernel_rfl) (by kernel_rfl) (fun _ _ _ h => h) (by rfl) (by assumption) ?_
  try simp only [Act.put, List.setIfInBounds_toArray, List.set_cons_zero, List.set_cons_succ]
  refine take_no 8 13 rfl rfl (by kernel_rfl) (by kernel_rfl) (by kernel_rfl) (fun _ _ _ h => h) (by rfl) (by assumption) ?_
  try simp only [Act.put, List.setIfInBounds_toArray, List.set_cons_zero, List.set_cons_succ]
  refine take_no 9 14 rfl rfl (by kernel_rfl) (by kernel_rfl) (by kernel_rfl) (fun _ _ _ h => h) (by rfl) (by assumption) ?_
  try simp only [Act.put, List.setIfInBounds_toArray, List.set_cons_zero, List.set_cons_succ]
  refine take_no 10 15 rfl rfl (by kernel_rfl) (by kernel_rfl) (by kernel_rfl) (fun _ _ _ h => h) (by rfl) (by assumption) ?_
  try simp only [Act.put, List.setIfInBounds_toArray, List.set_cons_zero, List.set_cons_succ]
  refine take_yes 11 16 rfl rfl (by kernel_rfl) (by kernel_rfl) (by kernel_rfl) (fun _ _ _ h => h) (by rfl) (by assumption) (v := ?_) ?_ ?_
  rotate_left
  · intro w hSw; (try dsimp only at hSw); go_simp; (try with_reducible rfl)
  try simp only [Act.put, List.setIfInBounds_toArray, List.set_cons_zero, List.set_cons_succ]
  refine wpAnyH_done (by kernel_rfl) ?_ _
  go_wp2_with fail
  go_ret
  exact ⟨rfl, hHeld⟩
set_option maxRecDepth 100000 in
set_option maxHeartbeats 4000000 in
theorem set_new_nil (f s : List UInt8) (hf : f.length ≤ 60) (hs : s.length ≤ 60) (s0 : s ≠ []) (hL : L = []) (h : StoreIs w g lim calm none L K) :
    Calls Try.prog 25 #[.pointer (some ⟨g, 0, none⟩), .string (B f), .string (B s)] w fun e w' => ∃ x bm, e = .returned (.int .i64 0) ∧ w.heap.size ≤ x ∧ w.heap.size ≤ bm ∧ StoreIs w' g lim calm (some bm) (put L (spN f, spR f) x) (kupd K x ⟨s, 0, 0⟩) ∧ Fr [g] w w' := by
  subst hL
  have hsN := spN_le f
  have hsR := spR_le f
  have SP := Lib.hid fun W => split_any f W (by omega)
  have CL := Lib.hid fun W => clone_any s W (by omega)
  obtain ⟨a, ha⟩ : ∃ a, spN f = a := ⟨_, rfl⟩
  obtain ⟨b, hb⟩ : ∃ a, spR f = a := ⟨_, rfl⟩
  rw [ha, hb] at SP ⊢
  rw [ha] at hsN
  rw [hb] at hsR
  unfold whoC at SP
  have H := Lib.hid h
  have h1 : ¬ (60 : Int) < f.length := by omega
  have h2 : ¬ (60 : Int) < s.length := by omega
  have hs1 : s.isEmpty = false := by simpa using s0
  clear ha hb h s0
  go_enter Try.func25, Try.ntmps25
  go_wp2_with fail
  refine (SP.out _).mono ?_
  rintro e w1 ⟨rfl, hF1⟩
  have hF2 := hF1.alloc (.cells #[.string (B a), .string (B b)] 24 (0, 0))
  have hS2 := H.out.fr0 hF2
  have hlk : ∀ N, (Instr.lookup 69 (.map none) (.agg #[.string (B a), .string (B b)]) true).run Try.prog ((w1.alloc (.cells #[.string (B a), .string (B b)] 24 (0, 0))).drewN N) = .ok (lookOk none) ((w1.alloc (.cells #[.string (B a), .string (B b)] 24 (0, 0))).drewN N) :=
    fun N => (hS2.fr0 ((Fr.refl _ _).drewN N)).mapAt.look2 a b (by unfold maxLen; omega) (by unfold maxLen; omega)
  have c2 : (w1.alloc (.cells #[.string (B a), .string (B b)] 24 (0, 0))).cell? ⟨g, 2, none⟩ = some (.map none) := hS2.st.c 2 _ rfl
  unfold lookOk at hlk
  have HS2 := Lib.hid hS2
  clear hS2
  go_wp2
  go_quiet (fail)
  obtain ⟨W0, hW0⟩ : ∃ W, (w1.alloc (.cells #[.string (B a), .string (B b)] 24 (0, 0))).drewN nq = W := ⟨_, rfl⟩
  have hS0 := HS2.out.fr0 ((Fr.refl _ _).drewN nq)
  have hB0 := (Blk.new w1 #[.string (B a), .string (B b)] 24).drewN nq
  have hF0 := hF2.drewN nq
  rw [hW0] at hS0 hB0 hF0 ⊢
  obtain ⟨q, hq⟩ : ∃ q, w1.heap.size = q := ⟨_, rfl⟩
  rw [hq] at hB0 ⊢
  have HS0 := Lib.hid hS0
  have HB0 := Lib.hid hB0
  have HF0 := Lib.hid hF0
  clear hW0 hq hlk c2 HS2 hF2 hF1
  have c2 : W0.cell? ⟨g, 2, none⟩ = some (.map none) := hS0.st.c 2 _ rfl
  have f2 := hS0.st.fz 2
  have hgl := hS0.st.lt
  have hnm := fun W : World => run_eql_map_nil (P := Try.prog) W 69 24 86 none Try.underlying69
  have hmm := @run_makeMap Try.prog
  clear hS0 hB0 hF0
  go_wp2_with fail
  obtain ⟨W1, hW1⟩ : ∃ W, W0.setCell ⟨g, 2, none⟩ (.map (some W0.heap.size)) = W := ⟨_, rfl⟩
  have hz1 : W1.heap.size = W0.heap.size := by rw [← hW1]; simp [World.setCell]
  have hG1 : Blk W1 g (stv lim calm (some W0.heap.size)) 71 := by
    rw [← hW1]
    have := HS0.out.st.set 2 (.map (some W0.heap.size))
    simpa [stv] using this
  have hF1 : Fr [g] W0 W1 := by rw [← hW1]; exact (Fr.refl _ _).setCell (by simp) _
  have hM : MapIs whoE ptrV (W1.alloc (.map #[] 0)) W0.heap.size ([] : List (Who × Nat)) := by rw [← hz1]; exact MapIs.new W1
  obtain ⟨bm, hbm⟩ : ∃ q, W0.heap.size = q := ⟨_, rfl⟩
  have HBM := Lib.hid hbm
  rw [hW1] at *
  rw [hbm] at hG1 hM hz1 ⊢
  obtain ⟨W2, hW2⟩ : ∃ W, W1.alloc (.map #[] 0) = W := ⟨_, rfl⟩
  have hG2 := hG1.alloc (.map #[] 0)
  have hF2 : Fr [g] W0 W2 := by rw [← hW2]; exact hF1.alloc _
  have hz2 : W2.heap.size = bm + 1 := by rw [← hW2]; simp [hz1]
  rw [hW2] at hM hG2 ⊢
  obtain ⟨W, hW⟩ : ∃ W, W2.alloc (.cells #[.string ⟨#[]⟩, .int .i64 0, .int .i64 0] 89 (0, 0)) = W := ⟨_, rfl⟩
  have hF3 : Fr [g] W0 W := by rw [← hW]; exact hF2.alloc _
  have hG3 := hG2.alloc (.cells #[.string ⟨#[]⟩, .int .i64 0, .int .i64 0] 89 (0, 0))
  have hM3 := hM.fr ((Fr.refl [] W2).alloc (.cells #[.string ⟨#[]⟩, .int .i64 0, .int .i64 0] 89 (0, 0))) (by simp)
  have hBx := Blk.new W2 #[.string ⟨#[]⟩, .int .i64 0, .int .i64 0] 89
  rw [hz2] at hBx
  rw [hW] at hG3 hM3 hBx ⊢
  have hqg : q ≠ g := HB0.out.neT HS0.out.st (by decide)
  have hBq := hF3.blk HB0.out (by simpa using hqg)
  have hFW : Fr [g] w W := (HF0.out.mono (by simp)).trans hF3
  have hxg : bm + 1 ≠ g := hBx.neT hG3 (by decide)
  have hbg : bm ≠ g := fun e => by
    subst e
    exact hM3.not_blk hG3 rfl
  have hS3 : StoreIs W g lim calm (some bm) [] K := ⟨hG3, Or.inr ⟨bm, rfl, hM3⟩, by simp, by simp, by simp⟩
  have hwz : w.heap.size ≤ bm := by rw [← HBM.out]; exact HF0.out.size
  have HS3 := Lib.hid hS3
  clear hW hW1 hW2 hG1 hG2 hM hF1 hF2 hF3 hnm hmm c2 f2
  obtain ⟨W3, hrun, hm2, hF3⟩ : ∃ W2, (Instr.mapUpdate 69 (.map (some bm)) (.agg #[.string (B a), .string (B b)]) (.pointer (some ⟨bm + 1, 0, none⟩))).run Try.prog W.drew = .ok () W2 ∧ MapIs whoE ptrV W2 bm (put [] (a, b) (bm + 1)) ∧ Fr [bm] W W2 := by
    obtain ⟨W2, h1, h2, h3⟩ := (hM3.fr (Fr.refl [] W).drew (by simp)).update Try.underlying69 (by simp [maxLen]) (a, b) ⟨by show a.length ≤ _; unfold maxLen; omega, by show b.length ≤ _; unfold maxLen; omega⟩ (bm + 1)
    exact ⟨W2, h1, h2, ((Fr.refl _ _).drew).trans h3⟩
  have c2 : W.cell? ⟨g, 2, none⟩ = some (.map (some bm)) := hG3.c 2 _ rfl
  have q0 := hBq.c 0 _ rfl
  have q1 := hBq.c 1 _ rfl
  have hB2 := hF3.blk hBx (by simp)
  have hF4 : Fr [g, bm] w W3 := (hFW.mono (by simp)).trans (hF3.mono (by simp))
  have HW := Lib.hid hm2
  have hG4 := hF3.blk hG3 (by simpa using Ne.symm hbg)
  have HG4 := Lib.hid hG4
  clear hm2 hBq hBx hG3 hM3 hFW hS3 hG4
  go_region
  all_goals
    go_wp2_with fail
    refine (CL.out _).mono ?_
    rintro e w3 ⟨rfl, hF5⟩
    have hB3 := hF5.blk hB2 (by simp)
    have hm3 := HW.out.fr hF5 (by simp)
    have hF6 := hF4.trans (hF5.mono (by simp))
    have d0 := hB3.c 0 _ rfl
    have f0 := hB3.fz 0
    have hB4 : Blk (w3.setCell ⟨bm + 1, 0, none⟩ (.string (B s))) (bm + 1) (knC ⟨s, 0, 0⟩) 89 := by
      have := hB3.set 0 (.string (B s))
      simpa [knC] using this
    have hF7 : Fr [g] w (w3.setCell ⟨bm + 1, 0, none⟩ (.string (B s))) := (Fr.refl [g] w).sub (hF6.setNew (by show _ ≤ bm + 1; omega) _) (fun y hy => by
      simp at hy
      rcases hy with h | h
      · left; simp [h]
      · right; omega)
    have hm4 : MapIs whoE ptrV (w3.setCell ⟨bm + 1, 0, none⟩ (.string (B s))) bm (put [] (a, b) (bm + 1)) := hm3.fr (S := [bm + 1]) ((Fr.refl _ _).setCell (by simp) _) (by simp)
    have hG5 : Blk (w3.setCell ⟨bm + 1, 0, none⟩ (.string (B s))) g (stv lim calm (some bm)) 71 := (hF5.blk HG4.out (by simp)).set_other _ (by simpa using Ne.symm hxg) _
    have HM4 := Lib.hid (And.intro hm4 hG5)
    clear hm4 hm3 hB3 hB2 hF6 hF5 hF4 hF3 hrun c2 q0 q1 hG5
    go_wp2
    go_ret
    refine ⟨bm + 1, bm, rfl, by omega, hwz, ⟨HM4.out.2, Or.inr ⟨bm, rfl, HM4.out.1⟩, fun p hp => ?_, ?_, fun p hp => ?_⟩, hF7⟩
    · rw [put_new (by simp [look])] at hp
      simp at hp
      subst hp
      simpa [kupd] using hB4
    · rw [put_new (by simp [look])]
      simp
    · rw [put_new (by simp [look])] at hp
      simp at hp
      subst hp
      exact hxg
end
end Go.Proofs.Ytpljdnocdhppmaa
