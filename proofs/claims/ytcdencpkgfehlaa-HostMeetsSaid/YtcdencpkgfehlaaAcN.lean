/- ac: a nil and a zero concentrator (printed by tools/gen_acn.py). -/
import Derived.Test.YtcdencpkgfehlaaAlive7
import Derived.Test.YtcdencpkgfehlaaHostW
namespace Go.Proofs.Ytcdencpkgfehlaa
open Go.RowKit Go.Maps
set_option linter.unusedVariables false
section
variable {P : Program}
theorem ret_cellF {fn : Func} {R : Ending → World → Prop} {a : Act} {w : World} (s r t : Nat) (T : TypeId) (hres : fn.results = #[.cell s T, .tmp r, .tmp t]) (b Tb : Nat) (cs : Array Value) (d : TypeDesc) (hB : Blk w b cs Tb)
    (ha : a.tmps.getD s undef = .pointer (some ⟨b, 0, none⟩)) (hu : P.underlying T = some d) (hd : d.isRow = true) (hi : (P.info? T).map (·.size) = some cs.size)
    (hdef : a.defers = []) (hR : R (.returned (.tuple #[.agg cs, a.tmps.getD r undef, a.tmps.getD t undef])) w) : bodyPost P fn R .ret a w := by
  have hload := run_loadVar_mid (P := P) w b 0 T cs.toList d hB.rangeAt hu hd (by rw [Array.length_toList]; exact hi)
  rw [Array.toArray_toList] at hload
  refine bodyPost_ret (v := .tuple #[.agg cs, a.tmps.getD r undef, a.tmps.getD t undef]) ?_ hdef hR
  rw [Array.getD_eq_getD_getElem?] at ha
  simp [results, hres, ha, asAddr, hload]
end
def NoneOf (w : World) (rv : Value) : Prop := ∀ W, Fr [] w W → Calls Try.prog 48 #[rv] W fun e w' => e = .returned (.bool true) ∧ w' = W
theorem none_nil (w : World) : NoneOf w (.pointer none) := fun W _ => cnone_nil
set_option maxRecDepth 100000 in
theorem none_zero {w : World} {g : Nat} (hB : Blk w g #[.int .u8 0, .int .u8 0, .int .u8 0, .int .u8 0, .int .u8 0, .int .u8 0, .string ⟨#[]⟩, .string ⟨#[]⟩, .slice none 0 0, .int .i64 0, .map none, .map none, .int .u16 0, .slice none 0 0] 85) : NoneOf w (.pointer (some ⟨g, 0, none⟩)) := fun W hW => by
  have c10 : W.cell? ⟨g, 10, none⟩ = some (.map none) := (hW.blk hB (by simp)).c 10 _ rfl
  have hmn : ∀ W, (binOp .eql 81 (.map none) (.map none)).run Try.prog W = .ok (.bool true) W := fun W => eq_map_nil none W
  go_enter Try.func48, Try.ntmps48
  go_wp2_with fail
  go_ret
  exact ⟨rfl, rfl⟩
section
variable {w : World} {rv : Value}
theorem live_none (h : NoneOf w rv) : Calls Try.prog 27 #[rv] w fun e w' => e = .returned (.slice none 0 0) ∧ Fr [] w w' := by
  have N := Lib.hid (h w (Fr.refl _ _))
  clear h
  go_enter Try.func27, Try.ntmps27
  go_wp2_with fail
  refine N.out.mono ?_
  rintro e w1 ⟨rfl, rfl⟩
  go_wp2_with fail
  go_ret
  exact ⟨rfl, Fr.refl _ _⟩
theorem gone_none (h : NoneOf w rv) : Calls Try.prog 33 #[rv] w fun e w' => e = .returned (.slice none 0 0) ∧ Fr [] w w' := by
  have N := Lib.hid (h w (Fr.refl _ _))
  clear h
  go_enter Try.func33, Try.ntmps33
  go_wp2_with fail
  refine N.out.mono ?_
  rintro e w1 ⟨rfl, rfl⟩
  go_wp2_with fail
  go_ret
  exact ⟨rfl, Fr.refl _ _⟩
set_option maxRecDepth 100000 in
theorem known_none (x : Idk) (h : NoneOf w rv) : Calls Try.prog 63 #[rv, .agg (idC x)] w fun e w' => e = .returned (.int .i64 1) ∧ Fr [] w w' := by
  obtain ⟨⟨x1, x2, x3, x4, x5, x6⟩, xn⟩ := x
  have hF := (Fr.refl [] w).alloc (.cells #[.int .u8 x1, .int .u8 x2, .int .u8 x3, .int .u8 x4, .int .u8 x5, .int .u8 x6, .int .i64 xn] 61 (0, 0))
  have N := Lib.hid (h _ hF)
  unfold idC idL mcL
  simp only [List.cons_append, List.nil_append]
  clear h
  go_enter Try.func63, Try.ntmps63
  go_wp2_with fail
  refine N.out.mono ?_
  rintro e w1 ⟨rfl, rfl⟩
  go_wp2_with fail
  go_ret
  exact ⟨rfl, hF⟩
set_option maxRecDepth 100000 in
theorem frame_none (x : Idk) (h : NoneOf w rv) : Calls Try.prog 34 #[rv, .agg (idC x), .string ⟨#[]⟩] w fun e w' => e = .returned (.tuple #[.agg #[.int .u8 0, .int .u8 0, .int .u8 0, .int .u8 0, .int .u8 0, .int .u8 0, .int .u8 0, .int .u8 0, .int .u8 0, .int .u8 0, .int .u8 0, .int .u8 0, .int .i64 0, .string ⟨#[]⟩], .int .i64 1]) ∧ Fr [] w w' := by
  have hN0 : Fr [] w (w.alloc (.cells (idC x) 61 (0, 0))) := (Fr.refl [] w).alloc _
  have K := Lib.hid fun W (hW : Fr [] w W) => known_none x (fun W2 h2 => h W2 (hW.trans h2))
  obtain ⟨⟨x1, x2, x3, x4, x5, x6⟩, xn⟩ := x
  unfold idC idL mcL at K hN0 ⊢
  simp only [List.cons_append, List.nil_append] at K hN0 ⊢
  have hI := (Blk.new w #[.int .u8 x1, .int .u8 x2, .int .u8 x3, .int .u8 x4, .int .u8 x5, .int .u8 x6, .int .i64 xn] 61).alloc (.cells #[.int .u8 0, .int .u8 0, .int .u8 0, .int .u8 0, .int .u8 0, .int .u8 0, .int .u8 0, .int .u8 0, .int .u8 0, .int .u8 0, .int .u8 0, .int .u8 0, .int .i64 0, .string ⟨#[]⟩] 35 (0, 0))
  have hE := Blk.new (w.alloc (.cells #[.int .u8 x1, .int .u8 x2, .int .u8 x3, .int .u8 x4, .int .u8 x5, .int .u8 x6, .int .i64 xn] 61 (0, 0))) #[.int .u8 0, .int .u8 0, .int .u8 0, .int .u8 0, .int .u8 0, .int .u8 0, .int .u8 0, .int .u8 0, .int .u8 0, .int .u8 0, .int .u8 0, .int .u8 0, .int .i64 0, .string ⟨#[]⟩] 35
  rw [show (w.alloc (.cells #[.int .u8 x1, .int .u8 x2, .int .u8 x3, .int .u8 x4, .int .u8 x5, .int .u8 x6, .int .i64 xn] 61 (0, 0))).heap.size = w.heap.size + 1 by simp] at hE
  have hF := hN0.alloc (.cells #[.int .u8 0, .int .u8 0, .int .u8 0, .int .u8 0, .int .u8 0, .int .u8 0, .int .u8 0, .int .u8 0, .int .u8 0, .int .u8 0, .int .u8 0, .int .u8 0, .int .i64 0, .string ⟨#[]⟩] 35 (0, 0))
  have q0 := hI.c 0 _ rfl
  have q1 := hI.c 1 _ rfl
  have q2 := hI.c 2 _ rfl
  have q3 := hI.c 3 _ rfl
  have q4 := hI.c 4 _ rfl
  have q5 := hI.c 5 _ rfl
  have q6 := hI.c 6 _ rfl
  clear h
  go_enter Try.func34, Try.ntmps34
  go_wp2_with fail
  refine (K.out _ hF).mono ?_
  rintro e w1 ⟨rfl, hF1⟩
  have hE1 := hF1.blk hE (by simp)
  have HE1 := Lib.hid hE1
  have HF1 := Lib.hid (hF.trans hF1)
  obtain ⟨q, hq⟩ : ∃ q, w.heap.size + 1 = q := ⟨_, rfl⟩
  rw [hq] at HE1 ⊢
  have HWQ : Hid (w.heap.size ≤ q) := Lib.hid (by omega)
  clear q0 q1 q2 q3 q4 q5 q6 hI hE hE1 hF hF1 K hN0 hq
  go_wp2_with (refine wpList_store_blk rfl 35 _ _ rfl q 35 _ #[.int .u8 0, .int .u8 0, .int .u8 0, .int .u8 0, .int .u8 0, .int .u8 0, .int .u8 0, .int .u8 0, .int .u8 0, .int .u8 0, .int .u8 0, .int .u8 0, .int .i64 0, .string ⟨#[]⟩] HE1.out rfl rfl rfl (by kernel_rfl) (by simp [Value.oneCell']) ?_)
  intro w3 hw3 hN3
  have hF3 : Fr [] w w3 := by
    rw [hw3.out]
    exact HF1.out.setCells q 0 _ (Or.inl HWQ.out)
  clear hw3 HE1 HF1
  go_wp2_with fail
  exact ret_cell2 6 7 35 rfl q 35 _ _ hN3 rfl Try.underlying35 rfl (by kernel_rfl) rfl ⟨rfl, hF3⟩
set_option maxRecDepth 100000 in
theorem close_none (x : Idk) (h : NoneOf w rv) : Calls Try.prog 32 #[rv, .agg (idC x)] w fun e w' => e = .returned (.tuple #[.slice none 0 0, .int .i64 1]) ∧ Fr [] w w' := by
  have hF : Fr [] w (w.alloc (.cells (idC x) 61 (0, 0))) := (Fr.refl [] w).alloc _
  have K := Lib.hid fun W (hW : Fr [] w W) => known_none x (fun W2 h2 => h W2 (hW.trans h2))
  obtain ⟨⟨x1, x2, x3, x4, x5, x6⟩, xn⟩ := x
  unfold idC idL mcL at K hF ⊢
  simp only [List.cons_append, List.nil_append] at K hF ⊢
  have hI := Blk.new w #[.int .u8 x1, .int .u8 x2, .int .u8 x3, .int .u8 x4, .int .u8 x5, .int .u8 x6, .int .i64 xn] 61
  have q0 := hI.c 0 _ rfl
  have q1 := hI.c 1 _ rfl
  have q2 := hI.c 2 _ rfl
  have q3 := hI.c 3 _ rfl
  have q4 := hI.c 4 _ rfl
  have q5 := hI.c 5 _ rfl
  have q6 := hI.c 6 _ rfl
  clear h
  go_enter Try.func32, Try.ntmps32
  go_wp2_with fail
  refine (K.out _ hF).mono ?_
  rintro e w1 ⟨rfl, hF1⟩
  have HF1 := Lib.hid (hF.trans hF1)
  clear q0 q1 q2 q3 q4 q5 q6 hI hF hF1 K
  go_wp2_with fail
  go_ret2
  exact ⟨rfl, HF1.out⟩

set_option maxRecDepth 100000 in
set_option maxHeartbeats 4000000 in
theorem ctake_none (f : Et) (t : Int) (h : NoneOf w rv) : Calls Try.prog 24 #[rv, .agg (etC f), .int .i64 t] w fun e w' => e = .returned (.slice none 0 0) ∧ Fr [] w w' := by
  obtain ⟨⟨k1, k2, k3, k4, k5, k6⟩, ⟨s1, s2, s3, s4, s5, s6⟩, ty, d⟩ := f
  unfold etC ethC
  simp only
  have hF := (Fr.refl [] w).alloc (.cells #[.int .u8 k1, .int .u8 k2, .int .u8 k3, .int .u8 k4, .int .u8 k5, .int .u8 k6, .int .u8 s1, .int .u8 s2, .int .u8 s3, .int .u8 s4, .int .u8 s5, .int .u8 s6, .int .i64 ty, .string (B d)] 35 (0, 0))
  have NO := Lib.hid h
  clear h
  go_enter Try.func24, Try.ntmps24
  go_wp2_with fail
  obtain ⟨W3, hW3⟩ : ∃ W, w.alloc (.cells #[.int .u8 k1, .int .u8 k2, .int .u8 k3, .int .u8 k4, .int .u8 k5, .int .u8 k6, .int .u8 s1, .int .u8 s2, .int .u8 s3, .int .u8 s4, .int .u8 s5, .int .u8 s6, .int .i64 ty, .string (B d)] 35 (0, 0)) = W := ⟨_, rfl⟩
  rw [hW3] at hF ⊢
  have HF3 := Lib.hid hF
  have N2 := Lib.hid fun W (hW : Fr [] W3 W) => NO.out W (HF3.out.trans hW)
  have hG0 : True ∧ Fr [] W3 W3.drew := ⟨trivial, (Fr.refl [] W3).drew⟩
  clear hF hW3 NO
  refine wp_region_held_drew (S := (fun W => True ∧ Fr [] W3 W)) (by kernel_rfl) ?_ (fun hHeld => ?_)
  · (try dsimp only); exact hG0
  refine take_yes 0 12 rfl rfl (by kernel_rfl) (by kernel_rfl) (by kernel_rfl) (fun _ _ _ h => h) (by rfl) (by assumption) (v := ?_) ?_ ?_
  rotate_left
  · intro w hSw; (try dsimp only at hSw); go_simp; (try with_reducible rfl)
  try simp only [Act.put, List.setIfInBounds_toArray, List.set_cons_zero, List.set_cons_succ]
  refine wpAnyH_ready (rs := [1]) (by kernel_rfl) (by simp) ?_
  refine AllReadyH.cons (o := _) rfl (fun K hK => ?_) AllReadyH.nil
  go_simp
  refine (N2.out _ (And.right (by assumption))).mono ?_
  rintro e w1 ⟨rfl, rfl⟩
  (try go_wp2_with fail)
  refine hK.out _ _ ?_ (fun hHeld => ?_)
  · (try dsimp only); assumption
  clear hK K
  try simp only [Act.put, List.setIfInBounds_toArray, List.set_cons_zero, List.set_cons_succ]
  refine take_yes 2 14 rfl rfl (by kernel_rfl) (by kernel_rfl) (by kernel_rfl) (fun _ _ _ h => h) (by rfl) (by assumption) (v := ?_) ?_ ?_
  rotate_left
  · intro w hSw; (try dsimp only at hSw); go_simp; (try with_reducible rfl)
  try simp only [Act.put, List.setIfInBounds_toArray, List.set_cons_zero, List.set_cons_succ]
  refine take_no 3 15 rfl rfl (by kernel_rfl) (by kernel_rfl) (by kernel_rfl) (fun _ _ _ h => h) (by rfl) (by assumption) ?_
  try simp only [Act.put, List.setIfInBounds_toArray, List.set_cons_zero, List.set_cons_succ]
  refine take_no 4 16 rfl rfl (by kernel_rfl) (by kernel_rfl) (by kernel_rfl) (fun _ _ _ h => h) (by rfl) (by assumption) ?_
  try simp only [Act.put, List.setIfInBounds_toArray, List.set_cons_zero, List.set_cons_succ]
  refine take_no 5 17 rfl rfl (by kernel_rfl) (by kernel_rfl) (by kernel_rfl) (fun _ _ _ h => h) (by rfl) (by assumption) ?_
  try simp only [Act.put, List.setIfInBounds_toArray, List.set_cons_zero, List.set_cons_succ]
  refine take_yes 6 18 rfl rfl (by kernel_rfl) (by kernel_rfl) (by kernel_rfl) (fun _ _ _ h => h) (by rfl) (by assumption) (v := ?_) ?_ ?_
  rotate_left
  · intro w hSw; (try dsimp only at hSw); go_simp; (try with_reducible rfl)
  try simp only [Act.put, List.setIfInBounds_toArray, List.set_cons_zero, List.set_cons_succ]
  refine take_yes 7 19 rfl rfl (by kernel_rfl) (by kernel_rfl) (by kernel_rfl) (fun _ _ _ h => h) (by rfl) (by assumption) (v := ?_) ?_ ?_
  rotate_left
  · intro w hSw; (try dsimp only at hSw); go_simp; (try with_reducible rfl)
  try simp only [Act.put, List.setIfInBounds_toArray, List.set_cons_zero, List.set_cons_succ]
  refine take_no 8 20 rfl rfl (by kernel_rfl) (by kernel_rfl) (by kernel_rfl) (fun _ _ _ h => h) (by rfl) (by assumption) ?_
  try simp only [Act.put, List.setIfInBounds_toArray, List.set_cons_zero, List.set_cons_succ]
  refine take_no 9 21 rfl rfl (by kernel_rfl) (by kernel_rfl) (by kernel_rfl) (fun _ _ _ h => h) (by rfl) (by assumption) ?_
  try simp only [Act.put, List.setIfInBounds_toArray, List.set_cons_zero, List.set_cons_succ]
  refine take_no 10 22 rfl rfl (by kernel_rfl) (by kernel_rfl) (by kernel_rfl) (fun _ _ _ h => h) (by rfl) (by assumption) ?_
  try simp only [Act.put, List.setIfInBounds_toArray, List.set_cons_zero, List.set_cons_succ]
  refine take_no 11 23 rfl rfl (by kernel_rfl) (by kernel_rfl) (by kernel_rfl) (fun _ _ _ h => h) (by rfl) (by assumption) ?_
  try simp only [Act.put, List.setIfInBounds_toArray, List.set_cons_zero, List.set_cons_succ]
  refine take_no 12 24 rfl rfl (by kernel_rfl) (by kernel_rfl) (by kernel_rfl) (fun _ _ _ h => h) (by rfl) (by assumption) ?_
  try simp only [Act.put, List.setIfInBounds_toArray, List.set_cons_zero, List.set_cons_succ]
  refine take_no 13 25 rfl rfl (by kernel_rfl) (by kernel_rfl) (by kernel_rfl) (fun _ _ _ h => h) (by rfl) (by assumption) ?_
  try simp only [Act.put, List.setIfInBounds_toArray, List.set_cons_zero, List.set_cons_succ]
  refine take_no 14 26 rfl rfl (by kernel_rfl) (by kernel_rfl) (by kernel_rfl) (fun _ _ _ h => h) (by rfl) (by assumption) ?_
  try simp only [Act.put, List.setIfInBounds_toArray, List.set_cons_zero, List.set_cons_succ]
  refine take_yes 15 27 rfl rfl (by kernel_rfl) (by kernel_rfl) (by kernel_rfl) (fun _ _ _ h => h) (by rfl) (by assumption) (v := ?_) ?_ ?_
  rotate_left
  · intro w hSw; (try dsimp only at hSw); go_simp; (try with_reducible rfl)
  try simp only [Act.put, List.setIfInBounds_toArray, List.set_cons_zero, List.set_cons_succ]
  refine wpAnyH_done (by kernel_rfl) ?_ _
  go_wp2_with fail
  go_ret
  exact ⟨rfl, HF3.out.trans (And.right (by assumption))⟩
set_option maxRecDepth 100000 in
set_option maxHeartbeats 4000000 in
theorem cdata_none (f : Et) (h : NoneOf w rv) : Calls Try.prog 31 #[rv, .agg (etC f)] w fun e w' => e = .returned (.tuple #[.agg #[.int .u8 0, .int .u8 0, .int .u8 0, .int .u8 0, .int .u8 0, .int .u8 0, .int .i64 0], .string ⟨#[]⟩, .bool false]) ∧ Fr [] w w' := by
  obtain ⟨⟨k1, k2, k3, k4, k5, k6⟩, ⟨s1, s2, s3, s4, s5, s6⟩, ty, d⟩ := f
  unfold etC ethC
  simp only
  have hF := (Fr.refl [] w).alloc (.cells #[.int .u8 k1, .int .u8 k2, .int .u8 k3, .int .u8 k4, .int .u8 k5, .int .u8 k6, .int .u8 s1, .int .u8 s2, .int .u8 s3, .int .u8 s4, .int .u8 s5, .int .u8 s6, .int .i64 ty, .string (B d)] 35 (0, 0))
  have hE := Blk.new (w.alloc (.cells #[.int .u8 k1, .int .u8 k2, .int .u8 k3, .int .u8 k4, .int .u8 k5, .int .u8 k6, .int .u8 s1, .int .u8 s2, .int .u8 s3, .int .u8 s4, .int .u8 s5, .int .u8 s6, .int .i64 ty, .string (B d)] 35 (0, 0))) #[.int .u8 0, .int .u8 0, .int .u8 0, .int .u8 0, .int .u8 0, .int .u8 0, .int .i64 0] 61
  rw [show (w.alloc (.cells #[.int .u8 k1, .int .u8 k2, .int .u8 k3, .int .u8 k4, .int .u8 k5, .int .u8 k6, .int .u8 s1, .int .u8 s2, .int .u8 s3, .int .u8 s4, .int .u8 s5, .int .u8 s6, .int .i64 ty, .string (B d)] 35 (0, 0))).heap.size = w.heap.size + 1 by simp] at hE
  replace hF := hF.alloc (.cells #[.int .u8 0, .int .u8 0, .int .u8 0, .int .u8 0, .int .u8 0, .int .u8 0, .int .i64 0] 61 (0, 0))
  have NO := Lib.hid h
  clear h
  go_enter Try.func31, Try.ntmps31
  go_wp2_with fail
  obtain ⟨q, hq⟩ : ∃ q, w.heap.size + 1 = q := ⟨_, rfl⟩
  rw [hq] at hE ⊢
  have HWQ : Hid (w.heap.size ≤ q) := Lib.hid (by omega)
  obtain ⟨W3, hW3⟩ : ∃ W, (w.alloc (.cells #[.int .u8 k1, .int .u8 k2, .int .u8 k3, .int .u8 k4, .int .u8 k5, .int .u8 k6, .int .u8 s1, .int .u8 s2, .int .u8 s3, .int .u8 s4, .int .u8 s5, .int .u8 s6, .int .i64 ty, .string (B d)] 35 (0, 0))).alloc (.cells #[.int .u8 0, .int .u8 0, .int .u8 0, .int .u8 0, .int .u8 0, .int .u8 0, .int .i64 0] 61 (0, 0)) = W := ⟨_, rfl⟩
  rw [hW3] at hF hE ⊢
  have HF3 := Lib.hid hF
  have N2 := Lib.hid fun W (hW : Fr [] W3 W) => NO.out W (HF3.out.trans hW)
  have HE := Lib.hid hE
  have hG0 : True ∧ Fr [] W3 W3.drew := ⟨trivial, (Fr.refl [] W3).drew⟩
  clear hF hW3 NO hE hq
  refine wp_region_held_drew (S := (fun W => True ∧ Fr [] W3 W)) (by kernel_rfl) ?_ (fun hHeld => ?_)
  · (try dsimp only); exact hG0
  refine take_yes 0 11 rfl rfl (by kernel_rfl) (by kernel_rfl) (by kernel_rfl) (fun _ _ _ h => h) (by rfl) (by assumption) (v := ?_) ?_ ?_
  rotate_left
  · intro w hSw; (try dsimp only at hSw); go_simp; (try with_reducible rfl)
  try simp only [Act.put, List.setIfInBounds_toArray, List.set_cons_zero, List.set_cons_succ]
  refine wpAnyH_ready (rs := [1]) (by kernel_rfl) (by simp) ?_
  refine AllReadyH.cons (o := _) rfl (fun K hK => ?_) AllReadyH.nil
  go_simp
  refine (N2.out _ (And.right (by assumption))).mono ?_
  rintro e w1 ⟨rfl, rfl⟩
  (try go_wp2_with fail)
  refine hK.out _ _ ?_ (fun hHeld => ?_)
  · (try dsimp only); assumption
  clear hK K
  try simp only [Act.put, List.setIfInBounds_toArray, List.set_cons_zero, List.set_cons_succ]
  refine take_yes 2 13 rfl rfl (by kernel_rfl) (by kernel_rfl) (by kernel_rfl) (fun _ _ _ h => h) (by rfl) (by assumption) (v := ?_) ?_ ?_
  rotate_left
  · intro w hSw; (try dsimp only at hSw); go_simp; (try with_reducible rfl)
  try simp only [Act.put, List.setIfInBounds_toArray, List.set_cons_zero, List.set_cons_succ]
  refine take_no 3 14 rfl rfl (by kernel_rfl) (by kernel_rfl) (by kernel_rfl) (fun _ _ _ h => h) (by rfl) (by assumption) ?_
  try simp only [Act.put, List.setIfInBounds_toArray, List.set_cons_zero, List.set_cons_succ]
  refine take_no 4 15 rfl rfl (by kernel_rfl) (by kernel_rfl) (by kernel_rfl) (fun _ _ _ h => h) (by rfl) (by assumption) ?_
  try simp only [Act.put, List.setIfInBounds_toArray, List.set_cons_zero, List.set_cons_succ]
  refine take_no 5 16 rfl rfl (by kernel_rfl) (by kernel_rfl) (by kernel_rfl) (fun _ _ _ h => h) (by rfl) (by assumption) ?_
  try simp only [Act.put, List.setIfInBounds_toArray, List.set_cons_zero, List.set_cons_succ]
  refine take_yes 6 17 rfl rfl (by kernel_rfl) (by kernel_rfl) (by kernel_rfl) (fun _ _ _ h => h) (by rfl) (by assumption) (v := ?_) ?_ ?_
  rotate_left
  · intro w hSw; (try dsimp only at hSw); go_simp; (try with_reducible rfl)
  try simp only [Act.put, List.setIfInBounds_toArray, List.set_cons_zero, List.set_cons_succ]
  refine take_yes 7 18 rfl rfl (by kernel_rfl) (by kernel_rfl) (by kernel_rfl) (fun _ _ _ h => h) (by rfl) (by assumption) (v := ?_) ?_ ?_
  rotate_left
  · intro w hSw; (try dsimp only at hSw); go_simp; (try with_reducible rfl)
  try simp only [Act.put, List.setIfInBounds_toArray, List.set_cons_zero, List.set_cons_succ]
  refine take_no 8 19 rfl rfl (by kernel_rfl) (by kernel_rfl) (by kernel_rfl) (fun _ _ _ h => h) (by rfl) (by assumption) ?_
  try simp only [Act.put, List.setIfInBounds_toArray, List.set_cons_zero, List.set_cons_succ]
  refine take_no 9 20 rfl rfl (by kernel_rfl) (by kernel_rfl) (by kernel_rfl) (fun _ _ _ h => h) (by rfl) (by assumption) ?_
  try simp only [Act.put, List.setIfInBounds_toArray, List.set_cons_zero, List.set_cons_succ]
  refine take_no 10 21 rfl rfl (by kernel_rfl) (by kernel_rfl) (by kernel_rfl) (fun _ _ _ h => h) (by rfl) (by assumption) ?_
  try simp only [Act.put, List.setIfInBounds_toArray, List.set_cons_zero, List.set_cons_succ]
  refine take_no 11 22 rfl rfl (by kernel_rfl) (by kernel_rfl) (by kernel_rfl) (fun _ _ _ h => h) (by rfl) (by assumption) ?_
  try simp only [Act.put, List.setIfInBounds_toArray, List.set_cons_zero, List.set_cons_succ]
  refine take_no 12 23 rfl rfl (by kernel_rfl) (by kernel_rfl) (by kernel_rfl) (fun _ _ _ h => h) (by rfl) (by assumption) ?_
  try simp only [Act.put, List.setIfInBounds_toArray, List.set_cons_zero, List.set_cons_succ]
  refine take_no 13 24 rfl rfl (by kernel_rfl) (by kernel_rfl) (by kernel_rfl) (fun _ _ _ h => h) (by rfl) (by assumption) ?_
  try simp only [Act.put, List.setIfInBounds_toArray, List.set_cons_zero, List.set_cons_succ]
  refine take_no 14 25 rfl rfl (by kernel_rfl) (by kernel_rfl) (by kernel_rfl) (fun _ _ _ h => h) (by rfl) (by assumption) ?_
  try simp only [Act.put, List.setIfInBounds_toArray, List.set_cons_zero, List.set_cons_succ]
  refine take_yes 15 26 rfl rfl (by kernel_rfl) (by kernel_rfl) (by kernel_rfl) (fun _ _ _ h => h) (by rfl) (by assumption) (v := ?_) ?_ ?_
  rotate_left
  · intro w hSw; (try dsimp only at hSw); go_simp; (try with_reducible rfl)
  try simp only [Act.put, List.setIfInBounds_toArray, List.set_cons_zero, List.set_cons_succ]
  refine wpAnyH_done (by kernel_rfl) ?_ _
  obtain ⟨V, hV⟩ : ∃ V, W3.drew = V := ⟨_, rfl⟩
  rw [hV] at hHeld ⊢
  have HE1 := Lib.hid (hHeld.2.blk HE.out (by simp))
  have HF1 := Lib.hid (HF3.out.trans hHeld.2)
  clear hV hHeld hG0
  go_wp2_with (refine wpList_store_blk rfl 61 _ _ rfl q 61 _ #[.int .u8 0, .int .u8 0, .int .u8 0, .int .u8 0, .int .u8 0, .int .u8 0, .int .i64 0] HE1.out rfl rfl rfl (by kernel_rfl) (by simp [Value.oneCell']) ?_)
  intro w3 hw3 hN3
  have hF3 : Fr [] w w3 := by
    rw [hw3.out]
    exact HF1.out.setCells q 0 _ (Or.inl HWQ.out)
  clear hw3 HE1 HF1
  go_wp2_with fail
  exact ret_cellF 4 5 6 61 rfl q 61 _ _ hN3 rfl Try.underlying61 rfl (by kernel_rfl) rfl ⟨rfl, hF3⟩
end
end Go.Proofs.Ytcdencpkgfehlaa
