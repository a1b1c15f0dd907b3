/- PapAsks, walked. -/
import Derived.Test.YtpljdnocdhppmaaLawP3
namespace Go.Proofs.Ytpljdnocdhppmaa
open Go.RowKit
set_option linter.unusedVariables false

/-- a client that has asked: i ticks behind its start -/
def Asked (W : World) (g : Nat) (d : List UInt8) (r wt : Int) (i : Nat) (n : Int) : Prop :=
  (∃ t a id : Int, (i : Int) = a * wt + t ∧ 0 ≤ t ∧ t < wt ∧ 0 ≤ a ∧ a ≤ r ∧ id = 1 + a ∧ n = 1 + a ∧ Blk W g (pcl d r wt id t a true false false) 59) ∨
  ((i : Int) = wt * (r + 1) ∧ n = r + 1 ∧ ∃ t a id : Int, Blk W g (pcl d r wt id t a false true false) 59)
theorem asked_lt {r wt t a : Int} {i : Nat} (h : (i : Int) = a * wt + t) (ht : t < wt) (t0 : 0 ≤ t) (ha : a ≤ r) (hw : 1 ≤ wt) : (i : Int) < wt * (r + 1) := by
  have h1 : a * wt ≤ r * wt := Int.mul_le_mul_of_nonneg_right ha (by omega)
  have h2 : wt * (r + 1) = r * wt + wt := by rw [Int.mul_add, Int.mul_one, Int.mul_comm]
  omega

set_option maxRecDepth 100000 in
set_option maxHeartbeats 4000000 in
theorem papAsks_other (w : World) (n s : List UInt8) (r wt id : Int) (b : Bool) (hn : n.length ≤ 60) (hs : s.length ≤ 60) (r0 : 0 ≤ r) (r1 : r ≤ 10) (w0 : 1 ≤ wt) (w1 : wt ≤ 30) (hid : (id == 1) = false) :
    Calls Try.prog 9 #[.string (B n), .string (B s), .int .i64 r, .int .i64 wt, .int .i64 id, .bool b] w fun e w' => e = .returned (.bool true) ∧ Below w.heap.size w w' := by
  have P := Lib.hid (pnew_ok (w := w) n s (r := r) (wt := wt) hn hs r0 r1 w0 (by omega))
  obtain ⟨d, hd⟩ : ∃ d, reqL n s = d := ⟨_, rfl⟩
  rw [hd] at P
  have hwt : (wt == 0) = false := by rw [beq_eq_false_iff_ne]; omega
  obtain ⟨M, hM⟩ : ∃ M, wt * (r + 1) = M := ⟨_, rfl⟩
  have hMb : M ≤ 330 := by
    have h1 : wt * (r + 1) ≤ 30 * (r + 1) := Int.mul_le_mul_of_nonneg_right w1 (by omega)
    omega
  have hM0 : 1 ≤ M := by
    have h1 : 1 * (r + 1) ≤ wt * (r + 1) := Int.mul_le_mul_of_nonneg_right w0 (by omega)
    omega
  have HM := Lib.hid hM
  have Hid := Lib.hid hid
  have hid2 : (id != 1) = true := by have := hid; simpa [bne] using this
  have Hid2 := Lib.hid hid2
  have Hwt := Lib.hid hwt
  clear hd hM hwt hid hid2
  go_enter Try.func9, Try.ntmps9
  go_wp2_with fail
  refine P.out.mono ?_
  rintro e w1 ⟨g, rfl, hg, hC, hF1⟩
  clear P
  have HS := Lib.hid (pstart_any (w := w1) (by decide) (by decide) Hwt.out hC)
  go_wp2_with fail
  refine HS.out.mono ?_
  rintro e w2 hp2
  obtain ⟨g2, rfl, hg2, hgl2, hP2, hC2, hF2⟩ := hp2.at_ (by omega) (by omega)
  rw [Int.zero_add] at hP2 hC2
  have hg12 : g < w1.heap.size := hC.lt
  have hF3 : Fr [] w w2 := hF1.sub hF2 (fun y hy => by simp at hy; subst hy; right; omega)
  obtain ⟨p0, p1, p2, p3⟩ := pkt_c hP2
  have HA := Lib.hid fun W : World => answer_any (w := W) 1 1 none 0 0 d b
  clear HS hp2 hF2 hC hF1
  go_wp2_with fail
  refine (HA.out _).mono ?_
  rintro e w3 ⟨rfl, hF4⟩
  have hP4 := hF4.blk hP2 (by simp)
  have hC4 := hF4.blk hC2 (by simp)
  have hF5 := hF3.trans hF4
  clear p0 p1 p2 p3 hP2 hC2 hF3 hF4 HA
  obtain ⟨cc, hcc⟩ : ∃ c : Int, (if b then 2 else 3) = c := ⟨_, rfl⟩
  obtain ⟨dd, hdd⟩ : ∃ c : List UInt8, (if b then [2, 111, 107] else [2, 110, 111]) = c := ⟨_, rfl⟩
  rw [hcc, hdd]
  clear hcc hdd
  have hl3 := hF5.size
  go_wp2_with (refine wpList_store_blk rfl 50 (.tmp 16) (.tmp 52) rfl w3.heap.size 50 #[.int .i64 0, .int .i64 0, .slice none 0 0, .string ⟨#[]⟩] (pkt cc 1 (.slice none 0 0) dd) ?k0 rfl rfl ?k1 ?k2 ?k3 ?_)
  case k0 => exact Blk.new _ _ _
  case k1 => rfl
  case k2 => kernel_rfl
  case k3 => exact pkt_one _ _ _ _ _ _
  intro w4 hw4 hQ
  have hlt2 := hP4.lt
  have hltc := hC4.lt
  have hF6 : Fr [] w w4 := by rw [hw4.out]; exact (hF5.alloc _).setCells _ _ _ (Or.inl hl3)
  have hP5 : Blk w4 g2 (pkt 1 1 (.slice none 0 0) d) 50 := by rw [hw4.out]; exact (hP4.alloc _).setCells_other _ _ _ (by omega)
  have hC5 : Blk w4 g (pcl d r wt 1 0 0 true false false) 59 := by rw [hw4.out]; exact (hC4.alloc _).setCells_other _ _ _ (by omega)
  obtain ⟨q, hq⟩ : ∃ q, w3.heap.size = q := ⟨_, rfl⟩
  rw [hq] at hQ hlt2 hltc hl3 ⊢
  clear hq hw4 hP4 hC4 hF5
  obtain ⟨q0, q1, q2, q3⟩ := pkt_c hQ
  have f1 := hQ.fz 1
  have hF7 : Fr [] w (w4.setCell ⟨q, 1, none⟩ (.int .i64 id)) := hF6.setNew hl3 _
  have hP6 := hP5.set_other ⟨q, 1, none⟩ (show g2 ≠ q by omega) (.int .i64 id)
  have hC6 := hC5.set_other ⟨q, 1, none⟩ (show g ≠ q by omega) (.int .i64 id)
  have HT := Lib.hid (ptake_id cc id none 0 0 dd Hwt.out Hid2.out (by decide) (by decide) hC6)
  clear hF6 hP5 hC5 hQ
  go_wp2_with fail
  refine HT.out.mono ?_
  rintro e w5 ⟨rfl, hF8⟩
  have hP7 := hF8.blk hP6 (by simp)
  have hC7 := hF8.blk hC6 (by simp)
  have hF9 := hF7.trans hF8
  clear HT q0 q1 q2 q3 f1 hF7 hF8 hP6 hC6
  have HD := Lib.hid (pdone_any (w := w5) Hwt.out hC7)
  go_wp2_with fail
  refine HD.out.mono ?_
  rintro e w6 ⟨rfl, hFa⟩
  have hP8 := hFa.blk hP7 (by simp)
  have hC8 := hFa.blk hC7 (by simp)
  have hFb := hF9.trans hFa
  clear HD hFa hF9 hC7 hP7
  obtain ⟨p0, p1, p2, p3⟩ := pkt_c hP8
  have hid := Hid.out
  have hM := HM.out
  go_wp2
  clear p0 p1 p2 p3 hP8 hid
  go_loopw [17, 19, 20] (fun dv nv iv wr => ∃ (i : Nat) (k : Int), (i : Int) ≤ M ∧ iv = .int .i64 i ∧ nv = .int .i64 k ∧ (1 ≤ k ∧ k ≤ 100) ∧ dv = .bool false ∧ Asked wr g d r wt i k ∧ g < wr.heap.size ∧ Fr [] w wr) (fun _ _ iv _ => (M - intOf iv).toNat)
  case atStart => exact ⟨0, 1, by omega, rfl, rfl, by omega, rfl, Or.inl ⟨0, 0, 1, by simp, by omega, by omega, by omega, by omega, by omega, by omega, hC8⟩, hC8.lt, hFb⟩
  case round =>
    clear hFb
    obtain ⟨i, k, hi, rfl, rfl, hk, rfl, hA, hgl, hF⟩ := hrel
    obtain ⟨hk1, hk2⟩ := hk
    rcases hA with ⟨t, a, j, hit, t0, t1, a0, a1, hj, hka, hC⟩ | ⟨hit, hka, t, a, j, hC⟩
    · have hlt : (i : Int) < M := by rw [← hM]; exact asked_lt hit t1 t0 a1 w0
      have hj0 : 0 ≤ j := by omega
      have hj1 : j < 255 := by omega
      have ht30 : t ≤ 1000 := by omega
      have ha30 : a ≤ 1000 := by omega
      have Hit := Lib.hid hit
      have Hj := Lib.hid hj
      have Hka := Lib.hid hka
      have hi330 : (i : Int) ≤ 330 := by omega
      have HD := Lib.hid (pdone_any (w := wr) Hwt.out hC)
      clear hit hj hka hi
      go_wp2_with fail
      refine HD.out.mono ?_
      rintro e w6 ⟨rfl, hFa⟩
      have hC8 := hFa.blk hC (by simp)
      have hFb := hF.trans hFa
      have hgl6 : g < w6.heap.size := by have := hFa.size; omega
      clear HD hFa hF hC
      by_cases htw : t + 1 < wt
      · have HT := Lib.hid (ptick_wait Hwt.out t0 ht30 htw hC8)
        go_wp2_with fail
        refine HT.out.mono ?_
        rintro e w7 ⟨rfl, hC9, hFc⟩
        have hFd := hFb.sub hFc (fun y hy => by simp at hy; subst hy; right; exact hg)
        have hgl7 := hC9.lt
        clear HT hFc hFb hC8
        go_wp2
        go_roundw
        case rel => exact ⟨i + 1, k, by omega, by go_num, rfl, ⟨hk1, hk2⟩, rfl, Or.inl ⟨t + 1, a, j, by have := Hit.out; omega, by omega, htw, a0, a1, Hj.out, Hka.out, hC9⟩, hgl7, hFd⟩
        case measure => (simp [intOf]) <;> omega
      · by_cases hra : r ≤ a
        · have HT := Lib.hid (ptick_end Hwt.out t0 ht30 htw hra hC8)
          go_wp2_with fail
          refine HT.out.mono ?_
          rintro e w7 ⟨rfl, hC9, hFc⟩
          have hFd := hFb.sub hFc (fun y hy => by simp at hy; subst hy; right; exact hg)
          have hgl7 := hC9.lt
          clear HT hFc hFb hC8
          go_wp2
          go_roundw
          case rel => exact ⟨i + 1, k, by omega, by go_num, rfl, ⟨hk1, hk2⟩, rfl, Or.inr ⟨by have h1 := Hit.out; have h2 : wt * (r + 1) = a * wt + wt := (by rw [show r = a by omega, Int.mul_add, Int.mul_one, Int.mul_comm]); omega, by have := Hka.out; omega, _, _, _, hC9⟩, hgl7, hFd⟩
          case measure => (simp [intOf]) <;> omega
        · have HT := Lib.hid (ptick_say hj0 (by omega) Hwt.out t0 ht30 a0 ha30 htw hra hC8)
          go_wp2_with fail
          refine HT.out.mono ?_
          rintro e w7 hp7
          obtain ⟨g7, rfl, hg7, hgl7, hP7, hC9, hFc⟩ := hp7.at_ hj0 hj1
          have hFd := hFb.sub hFc (fun y hy => by simp at hy; subst hy; right; exact hg)
          have hgl8 := hC9.lt
          clear HT hFc hFb hC8 hp7 hP7
          go_wp2
          go_roundw
          case rel => exact ⟨i + 1, k + 1, by omega, by go_num, rfl, by have := Hka.out; omega, rfl, Or.inl ⟨0, a + 1, j + 1, by have h1 := Hit.out; have h2 : (a + 1) * wt = a * wt + wt := (by rw [Int.add_mul, Int.one_mul]); omega, by omega, by omega, by omega, by omega, by have := Hj.out; omega, by have := Hka.out; omega, hC9⟩, hgl8, hFd⟩
          case measure => (simp [intOf]) <;> omega
    · have hnlt : ¬ (i : Int) < M := by omega
      have hq : (k == r + 1) = true := by rw [beq_iff_eq]; exact hka
      have HD := Lib.hid (pdone_any (w := wr) Hwt.out hC)
      clear hit hka hi
      go_wp2_with fail
      refine HD.out.mono ?_
      rintro e w6 ⟨rfl, hFa⟩
      go_wp2_with fail
      refine (alive13 _).mono ?_
      rintro e w7 ⟨rfl, hF7⟩
      go_wp2
      go_ret
      exact ⟨rfl, ((hF.trans hFa).trans hF7).below (Nat.le_refl _) (by simp)⟩

set_option maxRecDepth 100000 in
set_option maxHeartbeats 4000000 in
theorem papAsks_no (w : World) (n s : List UInt8) (r wt : Int) (hn : n.length ≤ 60) (hs : s.length ≤ 60) (r0 : 0 ≤ r) (r1 : r ≤ 10) (w0 : 1 ≤ wt) (w1 : wt ≤ 30) :
    Calls Try.prog 9 #[.string (B n), .string (B s), .int .i64 r, .int .i64 wt, .int .i64 1, .bool false] w fun e w' => e = .returned (.bool true) ∧ Below w.heap.size w w' := by
  have P := Lib.hid (pnew_ok (w := w) n s (r := r) (wt := wt) hn hs r0 r1 w0 (by omega))
  obtain ⟨d, hd⟩ : ∃ d, reqL n s = d := ⟨_, rfl⟩
  rw [hd] at P
  have hwt : (wt == 0) = false := by rw [beq_eq_false_iff_ne]; omega
  have Hwt := Lib.hid hwt
  clear hd hwt
  go_enter Try.func9, Try.ntmps9
  go_wp2_with fail
  refine P.out.mono ?_
  rintro e w1 ⟨g, rfl, hg, hC, hF1⟩
  clear P
  have HS := Lib.hid (pstart_any (w := w1) (by decide) (by decide) Hwt.out hC)
  go_wp2_with fail
  refine HS.out.mono ?_
  rintro e w2 hp2
  obtain ⟨g2, rfl, hg2, hgl2, hP2, hC2, hF2⟩ := hp2.at_ (by omega) (by omega)
  rw [Int.zero_add] at hP2 hC2
  have hg12 : g < w1.heap.size := hC.lt
  have hF3 : Fr [] w w2 := hF1.sub hF2 (fun y hy => by simp at hy; subst hy; right; omega)
  obtain ⟨p0, p1, p2, p3⟩ := pkt_c hP2
  have HA : Hid (∀ W : World, Calls Try.prog 34 #[.agg #[.int .i64 1, .int .i64 1, .slice none 0 0, .string (B d)], .bool false] W fun e w' => e = .returned (.agg (pkt 3 1 (.slice none 0 0) [2, 110, 111])) ∧ Fr [] W w') := Lib.hid fun W : World => answer_any (w := W) 1 1 none 0 0 d false
  clear HS hp2 hF2 hC hF1
  go_wp2_with fail
  refine (HA.out _).mono ?_
  rintro e w3 ⟨rfl, hF4⟩
  have hP4 := hF4.blk hP2 (by simp)
  have hC4 := hF4.blk hC2 (by simp)
  have hF5 := hF3.trans hF4
  clear p0 p1 p2 p3 hP2 hC2 hF3 hF4 HA
  have hl3 := hF5.size
  go_wp2_with (refine wpList_store_blk rfl 50 (.tmp 16) (.tmp 52) rfl w3.heap.size 50 #[.int .i64 0, .int .i64 0, .slice none 0 0, .string ⟨#[]⟩] (pkt 3 1 (.slice none 0 0) [2, 110, 111]) ?k0 rfl rfl ?k1 ?k2 ?k3 ?_)
  case k0 => exact Blk.new _ _ _
  case k1 => rfl
  case k2 => kernel_rfl
  case k3 => exact pkt_one _ _ _ _ _ _
  intro w4 hw4 hQ
  have hlt2 := hP4.lt
  have hltc := hC4.lt
  have hF6 : Fr [] w w4 := by rw [hw4.out]; exact (hF5.alloc _).setCells _ _ _ (Or.inl hl3)
  have hP5 : Blk w4 g2 (pkt 1 1 (.slice none 0 0) d) 50 := by rw [hw4.out]; exact (hP4.alloc _).setCells_other _ _ _ (by omega)
  have hC5 : Blk w4 g (pcl d r wt 1 0 0 true false false) 59 := by rw [hw4.out]; exact (hC4.alloc _).setCells_other _ _ _ (by omega)
  obtain ⟨q, hq⟩ : ∃ q, w3.heap.size = q := ⟨_, rfl⟩
  rw [hq] at hQ hlt2 hltc hl3 ⊢
  clear hq hw4 hP4 hC4 hF5
  obtain ⟨q0, q1, q2, q3⟩ := pkt_c hQ
  have f1 := hQ.fz 1
  have hF7 : Fr [] w (w4.setCell ⟨q, 1, none⟩ (.int .i64 1)) := hF6.setNew hl3 _
  have hP6 := hP5.set_other ⟨q, 1, none⟩ (show g2 ≠ q by omega) (.int .i64 1)
  have hC6 := hC5.set_other ⟨q, 1, none⟩ (show g ≠ q by omega) (.int .i64 1)
  have HT := Lib.hid (ptake_nak 1 none 0 0 [2, 110, 111] Hwt.out (by decide) (by decide) (by decide) hC6)
  clear hF6 hP5 hC5 hQ
  go_wp2_with fail
  refine HT.out.mono ?_
  rintro e w5 ⟨rfl, hC7, hF8⟩
  have hP7 := hF8.blk hP6 (by simp; omega)
  have hF9 := hF7.sub hF8 (fun y hy => by simp at hy; subst hy; right; exact hg)
  clear HT q0 q1 q2 q3 f1 hF7 hF8 hP6 hC6
  have HD := Lib.hid (pdone_any (w := w5) Hwt.out hC7)
  go_wp2_with fail
  refine HD.out.mono ?_
  rintro e w6 ⟨rfl, hFa⟩
  have hP8 := hFa.blk hP7 (by simp)
  have hFb := hF9.trans hFa
  clear HD hFa hF9 hC7 hP7
  obtain ⟨p0, p1, p2, p3⟩ := pkt_c hP8
  go_wp2_with fail
  refine (alive13 _).mono ?_
  rintro e w7 ⟨rfl, hF7⟩
  go_wp2
  go_ret
  exact ⟨rfl, (hFb.trans hF7).below (Nat.le_refl _) (by simp)⟩
set_option maxRecDepth 100000 in
set_option maxHeartbeats 4000000 in
theorem papAsks_ok (w : World) (n s : List UInt8) (r wt : Int) (hn : n.length ≤ 60) (hs : s.length ≤ 60) (r0 : 0 ≤ r) (r1 : r ≤ 10) (w0 : 1 ≤ wt) (w1 : wt ≤ 30) :
    Calls Try.prog 9 #[.string (B n), .string (B s), .int .i64 r, .int .i64 wt, .int .i64 1, .bool true] w fun e w' => e = .returned (.bool true) ∧ Below w.heap.size w w' := by
  have P := Lib.hid (pnew_ok (w := w) n s (r := r) (wt := wt) hn hs r0 r1 w0 (by omega))
  obtain ⟨d, hd⟩ : ∃ d, reqL n s = d := ⟨_, rfl⟩
  rw [hd] at P
  have hwt : (wt == 0) = false := by rw [beq_eq_false_iff_ne]; omega
  have Hwt := Lib.hid hwt
  clear hd hwt
  go_enter Try.func9, Try.ntmps9
  go_wp2_with fail
  refine P.out.mono ?_
  rintro e w1 ⟨g, rfl, hg, hC, hF1⟩
  clear P
  have HS := Lib.hid (pstart_any (w := w1) (by decide) (by decide) Hwt.out hC)
  go_wp2_with fail
  refine HS.out.mono ?_
  rintro e w2 hp2
  obtain ⟨g2, rfl, hg2, hgl2, hP2, hC2, hF2⟩ := hp2.at_ (by omega) (by omega)
  rw [Int.zero_add] at hP2 hC2
  have hg12 : g < w1.heap.size := hC.lt
  have hF3 : Fr [] w w2 := hF1.sub hF2 (fun y hy => by simp at hy; subst hy; right; omega)
  obtain ⟨p0, p1, p2, p3⟩ := pkt_c hP2
  have HA : Hid (∀ W : World, Calls Try.prog 34 #[.agg #[.int .i64 1, .int .i64 1, .slice none 0 0, .string (B d)], .bool true] W fun e w' => e = .returned (.agg (pkt 2 1 (.slice none 0 0) [2, 111, 107])) ∧ Fr [] W w') := Lib.hid fun W : World => answer_any (w := W) 1 1 none 0 0 d true
  clear HS hp2 hF2 hC hF1
  go_wp2_with fail
  refine (HA.out _).mono ?_
  rintro e w3 ⟨rfl, hF4⟩
  have hP4 := hF4.blk hP2 (by simp)
  have hC4 := hF4.blk hC2 (by simp)
  have hF5 := hF3.trans hF4
  clear p0 p1 p2 p3 hP2 hC2 hF3 hF4 HA
  have hl3 := hF5.size
  go_wp2_with (refine wpList_store_blk rfl 50 (.tmp 16) (.tmp 52) rfl w3.heap.size 50 #[.int .i64 0, .int .i64 0, .slice none 0 0, .string ⟨#[]⟩] (pkt 2 1 (.slice none 0 0) [2, 111, 107]) ?k0 rfl rfl ?k1 ?k2 ?k3 ?_)
  case k0 => exact Blk.new _ _ _
  case k1 => rfl
  case k2 => kernel_rfl
  case k3 => exact pkt_one _ _ _ _ _ _
  intro w4 hw4 hQ
  have hlt2 := hP4.lt
  have hltc := hC4.lt
  have hF6 : Fr [] w w4 := by rw [hw4.out]; exact (hF5.alloc _).setCells _ _ _ (Or.inl hl3)
  have hP5 : Blk w4 g2 (pkt 1 1 (.slice none 0 0) d) 50 := by rw [hw4.out]; exact (hP4.alloc _).setCells_other _ _ _ (by omega)
  have hC5 : Blk w4 g (pcl d r wt 1 0 0 true false false) 59 := by rw [hw4.out]; exact (hC4.alloc _).setCells_other _ _ _ (by omega)
  obtain ⟨q, hq⟩ : ∃ q, w3.heap.size = q := ⟨_, rfl⟩
  rw [hq] at hQ hlt2 hltc hl3 ⊢
  clear hq hw4 hP4 hC4 hF5
  obtain ⟨q0, q1, q2, q3⟩ := pkt_c hQ
  have f1 := hQ.fz 1
  have hF7 : Fr [] w (w4.setCell ⟨q, 1, none⟩ (.int .i64 1)) := hF6.setNew hl3 _
  have hP6 := hP5.set_other ⟨q, 1, none⟩ (show g2 ≠ q by omega) (.int .i64 1)
  have hC6 := hC5.set_other ⟨q, 1, none⟩ (show g ≠ q by omega) (.int .i64 1)
  have HT := Lib.hid (ptake_ack 1 none 0 0 [2, 111, 107] Hwt.out (by decide) (by decide) (by decide) hC6)
  clear hF6 hP5 hC5 hQ
  go_wp2_with fail
  refine HT.out.mono ?_
  rintro e w5 ⟨rfl, hC7, hF8⟩
  have hP7 := hF8.blk hP6 (by simp; omega)
  have hF9 := hF7.sub hF8 (fun y hy => by simp at hy; subst hy; right; exact hg)
  clear HT q0 q1 q2 q3 f1 hF7 hF8 hP6 hC6
  have HD := Lib.hid (pdone_any (w := w5) Hwt.out hC7)
  go_wp2_with fail
  refine HD.out.mono ?_
  rintro e w6 ⟨rfl, hFa⟩
  have hP8 := hFa.blk hP7 (by simp)
  have hFb := hF9.trans hFa
  clear HD hFa hF9 hC7 hP7
  obtain ⟨p0, p1, p2, p3⟩ := pkt_c hP8
  go_wp2_with fail
  refine (alive13 _).mono ?_
  rintro e w7 ⟨rfl, hF7⟩
  go_wp2
  go_ret
  exact ⟨rfl, (hFb.trans hF7).below (Nat.le_refl _) (by simp)⟩
theorem papAsks_walk (w : World) (n : ByteArray) (hn : n.size ≤ 140737488351232) (s : ByteArray) (hs : s.size ≤ 140737488351232) (r : Int) (r0 : -9223372036854775808 ≤ r) (r1 : r ≤ 9223372036854775807) (wt : Int) (w0 : -9223372036854775808 ≤ wt) (w1 : wt ≤ 9223372036854775807) (id : Int) (i0 : -9223372036854775808 ≤ id) (i1 : id ≤ 9223372036854775807) (b : Bool) :
    Calls Try.prog 9 #[.string n, .string s, .int .i64 r, .int .i64 wt, .int .i64 id, .bool b] w fun e w' => e = .returned (.bool true) ∧ Below w.heap.size w w' := by
  obtain ⟨n, rfl⟩ : ∃ l, n = B l := ⟨_, B_of n⟩
  obtain ⟨s, rfl⟩ : ∃ l, s = B l := ⟨_, B_of s⟩
  rw [B_size] at hn hs
  by_cases hE : newE n s r wt = 0
  · have h60 : n.length ≤ 60 ∧ s.length ≤ 60 := by
      unfold newE at hE; split at hE
      · assumption
      · exact absurd hE (by decide)
    have hrw : 0 ≤ r ∧ r ≤ 10 ∧ 1 ≤ wt ∧ wt ≤ 100 := by
      unfold newE at hE; rw [if_pos h60] at hE; split at hE
      · assumption
      · exact absurd hE (by decide)
    obtain ⟨ra, rb, wa, wb⟩ := hrw
    by_cases h30 : wt ≤ 30
    · by_cases hid : id = 1
      · subst hid
        cases b
        · exact papAsks_no w n s r wt h60.1 h60.2 ra rb wa h30
        · exact papAsks_ok w n s r wt h60.1 h60.2 ra rb wa h30
      · exact papAsks_other w n s r wt id b h60.1 h60.2 ra rb wa h30 (by rw [beq_eq_false_iff_ne]; exact hid)
    · have P := Lib.hid (pnew_ok (w := w) n s (r := r) (wt := wt) h60.1 h60.2 ra rb wa wb)
      have h31 : 30 < wt := by omega
      clear hE h60 h30
      go_enter Try.func9, Try.ntmps9
      go_wp2_with fail
      refine P.out.mono ?_
      rintro e w1 ⟨g, rfl, hg, hC, hF1⟩
      go_wp2_with fail
      refine (alive13 _).mono ?_
      rintro e w3 ⟨rfl, hF3⟩
      go_wp2
      go_ret
      exact ⟨rfl, (hF1.trans hF3).below (Nat.le_refl _) (by simp)⟩
  · have P := pnew_bad (w := w) n s (r := r) (wt := wt) (by omega) (by omega) hE
    have hne : (newE n s r wt != 0) = true := by simpa using hE
    obtain ⟨X, hX⟩ : ∃ X, newE n s r wt = X := ⟨_, rfl⟩
    rw [hX] at P hne
    have P' := Lib.hid P
    clear P hE hX
    go_enter Try.func9, Try.ntmps9
    go_wp2_with fail
    refine P'.out.mono ?_
    rintro e w1 ⟨rfl, hF1⟩
    go_wp2_with fail
    refine (alive13 _).mono ?_
    rintro e w3 ⟨rfl, hF3⟩
    go_wp2
    go_ret
    exact ⟨rfl, (hF1.trans hF3).below (Nat.le_refl _) (by simp)⟩
end Go.Proofs.Ytpljdnocdhppmaa
