/- ChapAsks, walked. -/
import Derived.Test.YtgkibgglalginaaLawCh2
namespace Go.Proofs.Ytgkibgglalginaa
open Go.RowKit
set_option linter.unusedVariables false

/-- a server that has asked: i ticks behind its start -/
def SAsked (W : World) (g : Nat) (nm v : List UInt8) (r wt : Int) (i : Nat) (n : Int) : Prop :=
  (∃ t a : Int, (i : Int) = a * wt + t ∧ 0 ≤ t ∧ t < wt ∧ 0 ≤ a ∧ a ≤ r ∧ n = 1 + a ∧ Blk W g (csv nm r wt 1 v true false t a false false none 0 0) 58) ∨
  ((i : Int) = wt * (r + 1) ∧ n = r + 1 ∧ ∃ t a : Int, Blk W g (csv nm r wt 1 v false false t a true false none 0 0) 58)
theorem asked_lt {r wt t a : Int} {i : Nat} (h : (i : Int) = a * wt + t) (ht : t < wt) (t0 : 0 ≤ t) (ha : a ≤ r) (hw : 1 ≤ wt) : (i : Int) < wt * (r + 1) := by
  have h1 : a * wt ≤ r * wt := Int.mul_le_mul_of_nonneg_right ha (by omega)
  have h2 : wt * (r + 1) = r * wt + wt := by rw [Int.mul_add, Int.mul_one, Int.mul_comm]
  omega

set_option maxRecDepth 100000 in
set_option maxHeartbeats 4000000 in
theorem chapAsks_small (w : World) (r wt : Int) (v : List UInt8) (r0 : 0 ≤ r) (r1 : r ≤ 10) (w0 : 1 ≤ wt) (w1 : wt ≤ 30) (v0 : 1 ≤ v.length) (v1 : v.length ≤ 60) :
    Calls Try.prog 6 #[.int .i64 r, .int .i64 wt, .string (B v)] w fun e w' => e = .returned (.bool true) ∧ Below w.heap.size w w' := by
  have hv : pvE v [115, 114, 118] = 0 := by
    unfold pvE
    rw [if_neg, if_neg (by decide)]
    rintro (h | h)
    · rw [h] at v0; simp at v0
    · omega
  have Hv := Lib.hid hv
  have S := Lib.hid (snew_ok (w := w) (n := [115, 114, 118]) (r := r) (wt := wt) (by decide) r0 r1 w0 (by omega))
  have hwt : (wt == 0) = false := by rw [beq_eq_false_iff_ne]; omega
  have Hwt := Lib.hid hwt
  obtain ⟨M, hM⟩ : ∃ M, wt * (r + 1) = M := ⟨_, rfl⟩
  have hMb : M ≤ 330 := by
    have h1 : wt * (r + 1) ≤ 30 * (r + 1) := Int.mul_le_mul_of_nonneg_right w1 (by omega)
    omega
  have hM0 : 1 ≤ M := by
    have h1 : 1 * (r + 1) ≤ wt * (r + 1) := Int.mul_le_mul_of_nonneg_right w0 (by omega)
    omega
  have HM := Lib.hid hM
  clear hv hwt hM
  go_enter Try.func6, Try.ntmps6
  go_wp2_with fail
  refine S.out.mono ?_
  rintro e w1 ⟨g, rfl, hg, hC, hF1⟩
  clear S
  obtain ⟨nm, hnm⟩ : ∃ l : List UInt8, [115, 114, 118] = l := ⟨_, rfl⟩
  obtain ⟨PL, hPL⟩ : ∃ l, pvL v nm = l := ⟨_, rfl⟩
  have HPL := Lib.hid hPL
  rw [hnm] at hC Hv
  clear hnm hPL
  have HS := Lib.hid (sstart_any (w := w1) (by decide) (by decide) v Hv.out Hwt.out hC)
  have hg12 : g < w1.heap.size := hC.lt
  go_wp2_with fail
  refine HS.out.mono ?_
  rintro e w2 ⟨gp, rfl, hgp, hgpl, hP2, hC2, hF2⟩
  rw [show ((0 : Int) + 1) % 256 = 1 from rfl] at hP2 hC2
  rw [HPL.out] at hP2
  have hF3 : Fr [] w w2 := hF1.sub hF2 (fun y hy => by simp at hy; subst hy; right; omega)
  have hgne : gp ≠ g := by omega
  clear HS hF2 hC hF1
  have hM := HM.out
  go_wp2
  go_loopw [10, 11] (fun nv iv wr => ∃ (i : Nat) (k : Int), (i : Int) ≤ M ∧ iv = .int .i64 i ∧ nv = .int .i64 k ∧ (1 ≤ k ∧ k ≤ 100) ∧ SAsked wr g nm v r wt i k ∧ g < wr.heap.size ∧ gp < wr.heap.size ∧ Pk wr gp 1 1 PL ∧ Fr [] w wr) (fun _ iv _ => (M - intOf iv).toNat)
  case atStart => exact ⟨0, 1, by omega, rfl, rfl, by omega, Or.inl ⟨0, 0, by simp, by omega, by omega, by omega, by omega, by omega, hC2⟩, hC2.lt, hgpl, hP2, hF3⟩
  case round =>
    clear hF3 hC2 hP2 hgpl
    obtain ⟨i, k, hi, rfl, rfl, hk, hA, hgl, hgpl, hP, hF⟩ := hrel
    obtain ⟨hk1, hk2⟩ := hk
    rcases hA with ⟨t, a, hit, t0, t1, a0, a1, hka, hC⟩ | ⟨hit, hka, t, a, hC⟩
    · have hlt : (i : Int) < M := by rw [← hM]; exact asked_lt hit t1 t0 a1 w0
      have ht30 : t ≤ 1000 := by omega
      have ha30 : a ≤ 1000 := by omega
      have Hit := Lib.hid hit
      have Hka := Lib.hid hka
      have hi330 : (i : Int) ≤ 330 := by omega
      have HD := Lib.hid (sdone_any (w := wr) Hwt.out hC)
      clear hit hka hi
      go_wp2_with fail
      refine HD.out.mono ?_
      rintro e w6 ⟨rfl, hFa⟩
      have hC8 := hFa.blk hC (by simp)
      have hP8 := hP.fr hFa hgpl (by simp)
      have hFb := hF.trans hFa
      have hgl6 : g < w6.heap.size := by have := hFa.size; omega
      have hgp6 : gp < w6.heap.size := by have := hFa.size; omega
      clear HD hFa hF hC hP hgpl hgl
      by_cases htw : t + 1 < wt
      · have HT := Lib.hid (stick_wait Hwt.out t0 ht30 htw hC8)
        go_wp2_with fail
        refine HT.out.mono ?_
        rintro e w7 ⟨rfl, hC9, hFc⟩
        have hFd := hFb.sub hFc (fun y hy => by simp at hy; subst hy; right; exact hg)
        have hP9 := hP8.fr hFc hgp6 (by simpa using hgne)
        have hgl7 := hC9.lt
        have hgp7 : gp < w7.heap.size := by have := hFc.size; omega
        clear HT hFc hFb hC8 hP8
        go_wp2
        refine wp_loop_rounds 1 ?_
        rw [rounds_succ]; go_wp2
        go_roundw
        case rel => exact ⟨i + 1, k, by omega, by go_num, rfl, ⟨hk1, hk2⟩, Or.inl ⟨t + 1, a, by have := Hit.out; omega, by omega, htw, a0, a1, Hka.out, hC9⟩, hgl7, hgp7, hP9, hFd⟩
        case measure => (simp [intOf]) <;> omega
      · by_cases hra : r ≤ a
        · have HT := Lib.hid (stick_end Hwt.out t0 ht30 htw hra hC8)
          go_wp2_with fail
          refine HT.out.mono ?_
          rintro e w7 ⟨rfl, hC9, hFc⟩
          have hFd := hFb.sub hFc (fun y hy => by simp at hy; subst hy; right; exact hg)
          have hP9 := hP8.fr hFc hgp6 (by simpa using hgne)
          have hgl7 := hC9.lt
          have hgp7 : gp < w7.heap.size := by have := hFc.size; omega
          clear HT hFc hFb hC8 hP8
          go_wp2
          refine wp_loop_rounds 1 ?_
          rw [rounds_succ]; go_wp2
          go_roundw
          case rel => exact ⟨i + 1, k, by omega, by go_num, rfl, ⟨hk1, hk2⟩, Or.inr ⟨by have h1 := Hit.out; have h2 : wt * (r + 1) = a * wt + wt := (by rw [show r = a by omega, Int.mul_add, Int.mul_one, Int.mul_comm]); omega, by have := Hka.out; omega, _, _, hC9⟩, hgl7, hgp7, hP9, hFd⟩
          case measure => (simp [intOf]) <;> omega
        · have HT := Lib.hid (stick_say (by decide) (by decide) Hv.out Hwt.out t0 ht30 a0 ha30 htw hra hC8)
          go_wp2_with fail
          refine HT.out.mono ?_
          rintro e w7 ⟨g7, rfl, hg7, hgl7, hP7, hC9, hFc⟩
          rw [HPL.out] at hP7
          have hFd := hFb.sub hFc (fun y hy => by simp at hy; subst hy; right; exact hg)
          have hP9 := hP8.fr hFc hgp6 (by simpa using hgne)
          have hgl8 := hC9.lt
          have hgp7 : gp < w7.heap.size := by have := hFc.size; omega
          clear HT hFc hFb hC8 hP8
          obtain ⟨q0, q1, q2, q3⟩ := hP7
          obtain ⟨p0, p1, p2, p3⟩ := id hP9
          go_wp2
          refine wp_loop_rounds 2 ?_
          rw [rounds_succ]; go_wp2
          go_quiet (fail)
          go_wp2
          rw [rounds_succ]; go_wp2
          go_roundw
          case rel => exact ⟨i + 1, k + 1, by omega, by go_num, rfl, by have := Hka.out; omega, Or.inl ⟨0, a + 1, by have h1 := Hit.out; have h2 : (a + 1) * wt = a * wt + wt := (by rw [Int.add_mul, Int.one_mul]); omega, by omega, by omega, by omega, by omega, by have := Hka.out; omega, hC9⟩, hgl8, hgp7, hP9, hFd.drewN _⟩
          case measure => (simp [intOf]) <;> omega
    · have hnlt : ¬ (i : Int) < M := by omega
      have hq : (k == r + 1) = true := by rw [beq_iff_eq]; exact hka
      have HD := Lib.hid (sdone_any (w := wr) Hwt.out hC)
      clear hit hka hi
      go_wp2_with fail
      refine HD.out.mono ?_
      rintro e w6 ⟨rfl, hFa⟩
      go_wp2_with fail
      refine (alive14 _).mono ?_
      rintro e w7 ⟨rfl, hF7⟩
      go_wp2
      go_ret
      exact ⟨rfl, ((hF.trans hFa).trans hF7).below (Nat.le_refl _) (by simp)⟩

set_option maxRecDepth 100000 in
set_option maxHeartbeats 4000000 in
theorem chapAsks_walk (w : World) (r : Int) (r0 : -9223372036854775808 ≤ r) (r1 : r ≤ 9223372036854775807) (wt : Int) (w0 : -9223372036854775808 ≤ wt) (w1 : wt ≤ 9223372036854775807) (v : ByteArray) (hv : v.size ≤ 140737488351232) :
    Calls Try.prog 6 #[.int .i64 r, .int .i64 wt, .string v] w fun e w' => e = .returned (.bool true) ∧ Below w.heap.size w w' := by
  obtain ⟨v, rfl⟩ : ∃ l, v = B l := ⟨_, B_of v⟩
  rw [B_size] at hv
  by_cases hE : 0 ≤ r ∧ r ≤ 10 ∧ 1 ≤ wt ∧ wt ≤ 100
  · obtain ⟨ra, rb, wa, wb⟩ := hE
    by_cases hS : wt ≤ 30 ∧ 1 ≤ v.length ∧ v.length ≤ 60
    · exact chapAsks_small w r wt v ra rb wa hS.1 hS.2.1 hS.2.2
    · have S := Lib.hid (snew_ok (w := w) (n := [115, 114, 118]) (r := r) (wt := wt) (by decide) ra rb wa wb)
      have hX : 30 < wt ∨ ¬ 30 < wt ∧ (v.length : Int) < 1 ∨ ¬ 30 < wt ∧ ¬ (v.length : Int) < 1 ∧ 60 < (v.length : Int) := by omega
      clear hS
      rcases hX with hX | ⟨h1, hX⟩ | ⟨h1, h2, hX⟩
      all_goals
        go_enter Try.func6, Try.ntmps6
        go_wp2_with fail
        refine S.out.mono ?_
        rintro e w1 ⟨g, rfl, hg, hC, hF1⟩
        go_wp2_with fail
        refine (alive14 _).mono ?_
        rintro e w3 ⟨rfl, hF3⟩
        go_wp2
        go_ret
        exact ⟨rfl, (hF1.trans hF3).below (Nat.le_refl _) (by simp)⟩
  · have P := Lib.hid (snew_bad (w := w) (n := [115, 114, 118]) (r := r) (wt := wt) (by decide) (by omega))
    clear hE
    go_enter Try.func6, Try.ntmps6
    go_wp2_with fail
    refine P.out.mono ?_
    rintro e w1 ⟨rfl, rfl⟩
    go_wp2_with fail
    refine (alive14 _).mono ?_
    rintro e w3 ⟨rfl, hF3⟩
    go_wp2
    go_ret
    exact ⟨rfl, hF3.below (Nat.le_refl _) (by simp)⟩
end Go.Proofs.Ytgkibgglalginaa
