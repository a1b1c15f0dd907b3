/- package pool: Who, Free, New, Give. -/
import Derived.Test.YtnenmgankgadcaaPool2
namespace Go.Proofs.Ytnenmgankgadcaa
open Go.RowKit Go.Maps
set_option linter.unusedVariables false
section
variable {w : World} {g bh bw : Nat} {b : Ad} {s : List (Option Ky)} {H : List (Ky × Ad)} {M : List (Ad × Ky)}
set_option maxRecDepth 100000 in
set_option maxHeartbeats 1000000 in
theorem who_any (a : Ad) (ha : AdOk a) (h : PoolIs w g bh bw b s H M) :
    Calls Try.prog 21 #[.pointer (some ⟨g, 0, none⟩), .agg (adC a)] w fun e w' => e = .returned (.tuple #[.agg (kyC (kyD (look M a))), .bool (look M a).isSome]) ∧ Fr [] w w' := by
  have hln := len_beq h
  obtain ⟨a1, a2, a3, a4⟩ := a
  have HK0 := Lib.hid fun (W : World) (hW : Fr [] w W) => lookM (h.fr0 hW).wM (a1, a2, a3, a4) ha
  have HC := Lib.hid fun (W : World) (hW : Fr [] w W) => (h.fr0 hW).st
  obtain ⟨v, hv⟩ : ∃ v, kyD (look M (a1, a2, a3, a4)) = v := ⟨_, rfl⟩
  obtain ⟨q, hq⟩ : ∃ v, (look M (a1, a2, a3, a4)).isSome = v := ⟨_, rfl⟩
  rw [hv, hq] at HK0 ⊢
  obtain ⟨v0, v1⟩ := v
  unfold adC adr
  unfold kyC at HK0 ⊢
  simp only at HK0 ⊢
  have HLn := Lib.hid hln
  clear h ha hv hq hln
  go_enter Try.func21, Try.ntmps21
  go_wp2_with fail
  refine (pnone_any HLn.out (HC.out _ (((Fr.refl _ _).alloc _).alloc _))).mono ?_
  rintro e w1 ⟨rfl, rfl⟩
  obtain ⟨W, hW⟩ : ∃ W, (w.alloc (.cells #[.int .u8 a1, .int .u8 a2, .int .u8 a3, .int .u8 a4] 23 (0, 0))).alloc (.cells #[.int .i64 0, .int .i64 0] 36 (0, 0)) = W := ⟨_, rfl⟩
  have hF : Fr [] w W := by rw [← hW]; exact ((Fr.refl _ _).alloc _).alloc _
  have hBk : Blk W w.heap.size #[.int .u8 a1, .int .u8 a2, .int .u8 a3, .int .u8 a4] 23 := by rw [← hW]; exact (Blk.new _ _ _).alloc _
  have hBz : Blk W (w.heap.size + 1) #[.int .i64 0, .int .i64 0] 36 := by
    have := Blk.new (w.alloc (.cells #[.int .u8 a1, .int .u8 a2, .int .u8 a3, .int .u8 a4] 23 (0, 0))) #[.int .i64 0, .int .i64 0] 36
    rw [show (w.alloc (.cells #[.int .u8 a1, .int .u8 a2, .int .u8 a3, .int .u8 a4] 23 (0, 0))).heap.size = w.heap.size + 1 by simp, hW] at this
    exact this
  rw [hW]
  clear hW
  go_wp2_with fail
  have HS : Hid (∀ w', Fr [] W w' → (w'.cell? ⟨g, 6, none⟩ = some (.map (some bw)) ∧ w'.cell? ⟨w.heap.size, 0, none⟩ = some (.int .u8 a1) ∧ w'.cell? ⟨w.heap.size, 1, none⟩ = some (.int .u8 a2) ∧ w'.cell? ⟨w.heap.size, 2, none⟩ = some (.int .u8 a3) ∧ w'.cell? ⟨w.heap.size, 3, none⟩ = some (.int .u8 a4) ∧ (Instr.lookup 59 (.map (some bw)) (.agg #[.int .u8 a1, .int .u8 a2, .int .u8 a3, .int .u8 a4]) true).run Try.prog w' = .ok (.tuple #[.agg #[.int .i64 v0, .int .i64 v1], .bool q]) w') ∧ Fr [] W w') :=
    Lib.hid fun w' hw => ⟨⟨(HC.out _ (hF.trans hw)).c 6 _ rfl, (hw.blk hBk (by simp)).c 0 _ rfl, (hw.blk hBk (by simp)).c 1 _ rfl, (hw.blk hBk (by simp)).c 2 _ rfl, (hw.blk hBk (by simp)).c 3 _ rfl, HK0.out _ (hF.trans hw)⟩, hw⟩
  go_region_held3 (fun w' => (w'.cell? ⟨g, 6, none⟩ = some (.map (some bw)) ∧ w'.cell? ⟨w.heap.size, 0, none⟩ = some (.int .u8 a1) ∧ w'.cell? ⟨w.heap.size, 1, none⟩ = some (.int .u8 a2) ∧ w'.cell? ⟨w.heap.size, 2, none⟩ = some (.int .u8 a3) ∧ w'.cell? ⟨w.heap.size, 3, none⟩ = some (.int .u8 a4) ∧ (Instr.lookup 59 (.map (some bw)) (.agg #[.int .u8 a1, .int .u8 a2, .int .u8 a3, .int .u8 a4]) true).run Try.prog w' = .ok (.tuple #[.agg #[.int .i64 v0, .int .i64 v1], .bool q]) w') ∧ Fr [] W w')
    (first | exact HS.out _ (Fr.refl _ _).drew | exact HS.out _ ((Fr.refl _ _).alloc _).drew | assumption) (fail)
  all_goals
    obtain ⟨W2, hW2⟩ : ∃ W2, (W.alloc (.cells #[.int .i64 v0, .int .i64 v1] 36 (0, 0))).drew = W2 := ⟨_, rfl⟩
    have hF2 : Fr [] W W2 := by rw [← hW2]; exact ((Fr.refl _ _).alloc _).drew
    have hB2 : Blk W2 W.heap.size #[.int .i64 v0, .int .i64 v1] 36 := by rw [← hW2]; exact (Blk.new _ _ _).drew
    have hZ2 := hF2.blk hBz (by simp)
    rw [hW2]
    obtain ⟨r, hr⟩ : ∃ r, W.heap.size = r := ⟨_, rfl⟩
    rw [hr] at hB2 ⊢
    have z0 : W2.cell? ⟨w.heap.size + 1, 0, none⟩ = some (.int .i64 0) := hZ2.c 0 _ rfl
    have z1 : W2.cell? ⟨w.heap.size + 1, 1, none⟩ = some (.int .i64 0) := hZ2.c 1 _ rfl
    have f0 := hZ2.fz 0
    have f1 := hZ2.fz 1
    have d0 : W2.cell? ⟨r, 0, none⟩ = some (.int .i64 v0) := hB2.c 0 _ rfl
    have d1 : W2.cell? ⟨r, 1, none⟩ = some (.int .i64 v1) := hB2.c 1 _ rfl
    have hB4 := (hZ2.set 0 (.int .i64 v0)).set 1 (.int .i64 v1)
    have hF4 := ((hF.trans hF2).setNew (p := ⟨w.heap.size + 1, 0, none⟩) (by simp) (.int .i64 v0)).setNew (p := ⟨w.heap.size + 1, 1, none⟩) (by simp) (.int .i64 v1)
    clear hW2 hr hF2 hB2 hZ2 HS
    go_wp2_with fail
    exact ret_cell2 4 5 36 rfl (w.heap.size + 1) 36 #[.int .i64 v0, .int .i64 v1] _ hB4 rfl Try.underlying36 rfl (by kernel_rfl) rfl ⟨rfl, hF4⟩
theorem free_any (h : PoolIs w g bh bw b s H M) :
    Calls Try.prog 23 #[.pointer (some ⟨g, 0, none⟩)] w fun e w' => e = .returned (.int .i64 ((s.length : Int) - (cnt s : Nat))) ∧ Fr [] w w' := by
  have HN := Lib.hid (pnone_any (len_beq h) h.st)
  have hlen := h.rel.len
  have hc := cnt_le s
  have n2 := h.n2
  have c4 : w.cell? ⟨g, 4, none⟩ = some (.int .i64 (s.length : Nat)) := h.st.c 4 _ rfl
  have c5 : w.cell? ⟨g, 5, none⟩ = some (.map (some bh)) := h.st.c 5 _ rfl
  have hln : ∀ N ty, (Builtin.len_ #[58] ty #[.map (some bh)]).run Try.prog (w.drewN N) = .ok (.int .i64 (cnt s : Nat)) (w.drewN N) := fun N ty => by
    rw [← hlen]
    exact (h.fr0 ((Fr.refl _ _).drewN N)).hM.len Try.underlying58 ty
  have b1 : (cnt s : Int) ≤ 256 := by omega
  have b2 : (s.length : Int) ≤ 256 := by omega
  clear h hlen hc n2
  go_enter Try.func23, Try.ntmps23
  go_wp2_with fail
  refine HN.out.mono ?_
  rintro e w1 ⟨rfl, rfl⟩
  go_wp2_with fail
  go_quiet (fail)
  go_wp2_with fail
  go_ret
  exact ⟨rfl, (Fr.refl _ _).drewN _⟩
end
theorem hF_new {w : World} {S : List Nat} {o : Obj} : Fr S w (w.alloc o) := (Fr.refl _ _).alloc _
set_option maxRecDepth 100000 in
set_option maxHeartbeats 1000000 in
theorem plnew_ok {w : World} (b : Ad) (n : Nat) (hb : AdOk b) (n1 : 1 ≤ n) (n2 : n ≤ 256) (ht : numb b + n ≤ 4294967296) :
    Calls Try.prog 13 #[.agg (adC b), .int .i64 n] w fun e w' => ∃ g bh bw, e = .returned (.tuple #[.pointer (some ⟨g, 0, none⟩), .int .i64 0]) ∧ w.heap.size ≤ g ∧ w.heap.size ≤ bh ∧ w.heap.size ≤ bw ∧ PoolIs w' g bh bw b (List.replicate n none) [] [] ∧ Fr [] w w' := by
  have hx := num4_bd hb.1 hb.2.1 hb.2.2.1 hb.2.2.2
  have HN := Lib.hid fun W => number_any b.1 b.2.1 b.2.2.1 b.2.2.2 W hb.1 hb.2.1 hb.2.2.1 hb.2.2.2
  have hR := rel_new n (numb b) hx.1 ht
  have HB := Lib.hid hb
  obtain ⟨b0, b1, b2, b3⟩ := b
  obtain ⟨x, hxe⟩ : ∃ x, num4 b0 b1 b2 b3 = x := ⟨_, rfl⟩
  simp only at HN hx
  rw [hxe] at HN hx
  have ht' : x + n ≤ 4294967296 := by rw [← hxe]; exact ht
  obtain ⟨x0, x1⟩ := hx
  have i1 : ¬ (n : Int) < 1 := by omega
  have i2 : ¬ (256 : Int) < n := by omega
  have i3 : ¬ 4294967296 < x + n := by omega
  have hmm := @run_makeMap Try.prog
  have Hht := Lib.hid ht
  clear hxe hb ht
  unfold adC
  simp only
  unfold adr at HN ⊢
  go_enter Try.func13, Try.ntmps13
  go_wp2_with fail
  refine (HN.out _).mono ?_
  rintro e w1 ⟨rfl, hF1⟩
  have hF2 := ((Fr.refl [] w).alloc (.cells #[.int .u8 b0, .int .u8 b1, .int .u8 b2, .int .u8 b3] 23 (0, 0))).trans hF1
  have hBx := hF1.blk (Blk.new w #[.int .u8 b0, .int .u8 b1, .int .u8 b2, .int .u8 b3] 23) (by simp)
  have c0 : w1.cell? ⟨w.heap.size, 0, none⟩ = some (.int .u8 b0) := hBx.c 0 _ rfl
  have c1 : w1.cell? ⟨w.heap.size, 1, none⟩ = some (.int .u8 b1) := hBx.c 1 _ rfl
  have c2 : w1.cell? ⟨w.heap.size, 2, none⟩ = some (.int .u8 b2) := hBx.c 2 _ rfl
  have c3 : w1.cell? ⟨w.heap.size, 3, none⟩ = some (.int .u8 b3) := hBx.c 3 _ rfl
  have hsz := hF2.size
  clear hF1
  go_wp2_with fail
  go_ret2
  refine ⟨w1.heap.size + 1 + 1, w1.heap.size, w1.heap.size + 1, rfl, by omega, hsz, by omega, ?_, ((hF2.alloc _).alloc _).alloc _⟩
  have hM1 : MapIs kyE adV (w1.alloc (.map #[] 0)) w1.heap.size ([] : List (Ky × Ad)) := MapIs.new w1
  have hM2 : MapIs adE kyV ((w1.alloc (.map #[] 0)).alloc (.map #[] 0)) (w1.heap.size + 1) ([] : List (Ad × Ky)) := by
    have := MapIs.new (E := adE) (ev := kyV) (w1.alloc (.map #[] 0))
    rwa [show (w1.alloc (.map #[] 0)).heap.size = w1.heap.size + 1 by simp] at this
  refine ⟨?_, (hM1.fr (S := []) hF_new (by simp)).fr (S := []) hF_new (by simp), hM2.fr (S := []) hF_new (by simp), by omega, hR, HB.out, by rw [List.length_replicate]; exact n1, by rw [List.length_replicate]; exact n2⟩
  have := Blk.new ((w1.alloc (.map #[] 0)).alloc (.map #[] 0)) #[.int .u8 b0, .int .u8 b1, .int .u8 b2, .int .u8 b3, .int .i64 n, .map (some w1.heap.size), .map (some (w1.heap.size + 1))] 61
  rw [List.length_replicate]
  simpa [plv] using this
set_option maxRecDepth 100000 in
set_option maxHeartbeats 1000000 in
theorem plnew_bad {w : World} (b : Ad) (n : Int) (hb : AdOk b) (n0 : -9223372036854775808 ≤ n) (n1 : n ≤ 9223372036854775807) (h : n < 1 ∨ 256 < n ∨ 4294967296 < numb b + n) :
    Calls Try.prog 13 #[.agg (adC b), .int .i64 n] w fun e w' => e = .returned (.tuple #[.pointer none, .int .i64 1]) ∧ Fr [] w w' := by
  have hx := num4_bd hb.1 hb.2.1 hb.2.2.1 hb.2.2.2
  have HN := Lib.hid fun W => number_any b.1 b.2.1 b.2.2.1 b.2.2.2 W hb.1 hb.2.1 hb.2.2.1 hb.2.2.2
  obtain ⟨b0, b1, b2, b3⟩ := b
  obtain ⟨x, hxe⟩ : ∃ x, num4 b0 b1 b2 b3 = x := ⟨_, rfl⟩
  simp only at HN hx
  rw [hxe] at HN hx
  have hX : n < 1 ∨ ¬ n < 1 ∧ 256 < n ∨ ¬ n < 1 ∧ ¬ 256 < n ∧ 4294967296 < x + n := by
    have : numb (b0, b1, b2, b3) = x := hxe
    rw [this] at h
    omega
  obtain ⟨x0, x1⟩ := hx
  clear hxe hb h
  unfold adC
  simp only
  unfold adr at HN ⊢
  rcases hX with hX | ⟨h1, hX⟩ | ⟨h1, h2, hX⟩
  · go_enter Try.func13, Try.ntmps13
    go_wp2_with fail
    go_ret2
    exact ⟨rfl, (Fr.refl _ _).alloc _⟩
  · go_enter Try.func13, Try.ntmps13
    go_wp2_with fail
    go_ret2
    exact ⟨rfl, (Fr.refl _ _).alloc _⟩
  · go_enter Try.func13, Try.ntmps13
    go_wp2_with fail
    refine (HN.out _).mono ?_
    rintro e w1 ⟨rfl, hF1⟩
    go_wp2_with fail
    go_ret2
    exact ⟨rfl, ((Fr.refl [] w).alloc _).trans hF1⟩
end Go.Proofs.Ytnenmgankgadcaa
