/- PapIds, walked. -/
import Derived.Test.YtpljdnocdhppmaaLawP2
namespace Go.Proofs.Ytpljdnocdhppmaa
open Go.RowKit
set_option linter.unusedVariables false

theorem pkt_c {w : World} {g : Nat} {c i : Int} {A : Option Addr} {n cap : Nat} {D : List UInt8} {T : Nat} (h : Blk w g (pkt c i (.slice A n cap) D) T) :
    w.cell? ⟨g, 0, none⟩ = some (.int .i64 c) ∧ w.cell? ⟨g, 1, none⟩ = some (.int .i64 i) ∧ w.cell? ⟨g, 2, none⟩ = some (.slice A n cap) ∧ w.cell? ⟨g, 3, none⟩ = some (.string (B D)) :=
  ⟨h.c 0 _ rfl, h.c 1 _ rfl, h.c 2 _ rfl, h.c 3 _ rfl⟩
/-- what a say leaves, its number known -/
theorem SayPost.at_ {w w' : World} {g : Nat} {d : List UInt8} {r wt id a : Int} {x y z : Bool} {e : Ending} (h : SayPost w g d r wt id a x y z e w') (i0 : 0 ≤ id) (i1 : id < 255) :
    ∃ g', e = .returned (.slice (some ⟨g', 0, none⟩) 1 1) ∧ w.heap.size ≤ g' ∧ g' < w'.heap.size ∧ Blk w' g' (pkt 1 (id + 1) (.slice none 0 0) d) 50 ∧ Blk w' g (pcl d r wt (id + 1) 0 a x y z) 59 ∧ Fr [g] w w' := by
  obtain ⟨g', he, hg, hP, hC, hF⟩ := h
  have e1 : (id + 1) % 256 = id + 1 := by omega
  rw [e1] at hP hC
  exact ⟨g', he, hg, hP.lt, hP, hC, hF⟩

set_option maxRecDepth 100000 in
set_option maxHeartbeats 4000000 in
theorem papIds_small (w : World) (n s : List UInt8) (N : Nat) (hn : n.length ≤ 60) (hs : s.length ≤ 60) (h1 : 1 ≤ N) (h2 : N ≤ 40) :
    Calls Try.prog 8 #[.string (B n), .string (B s), .int .i64 (N : Int)] w fun e w' => e = .returned (.bool true) ∧ Below w.heap.size w w' := by
  obtain ⟨r1, r2, r3, _, _, _⟩ := req_back n s [] hn hs
  have hl1 := reqL_le n s
  have P := Lib.hid (pnew_ok (w := w) n s (r := 5) (wt := 1) hn hs (by omega) (by omega) (by omega) (by omega))
  have S := fun (W : World) (i : Int) => serve_yes (w := W) i none 0 (reqL n s) (by omega)
  rw [r1, r2, r3] at S
  obtain ⟨d, hd⟩ : ∃ d, reqL n s = d := ⟨_, rfl⟩
  rw [hd] at P S
  have S' := Lib.hid S
  clear r1 r2 r3 hl1 S hd
  go_enter Try.func8, Try.ntmps8
  go_wp2_with fail
  refine P.out.mono ?_
  rintro e w1 ⟨g, rfl, hg, hC, hF1⟩
  clear P
  go_wp2
  go_loopw [9, 10] (fun lv iv wr => ∃ (i : Nat) (id t a : Int) (x z : Bool), i ≤ N ∧ iv = .int .i64 i ∧ lv = .int .i64 id ∧ 0 ≤ id ∧ id ≤ 2 * i ∧ Blk wr g (pcl d 5 1 id t a x false z) 59 ∧ Fr [] w wr) (fun _ iv _ => N - (intOf iv).toNat)
  case atStart => exact ⟨0, 0, 0, 0, false, false, by omega, rfl, rfl, by omega, by omega, hC, hF1⟩
  case round =>
    clear hC hF1
    obtain ⟨i, id, t, a, x, z, hi, rfl, rfl, id0, id1, hC, hF⟩ := hrel
    by_cases hlt : i < N
    · have hi40 : i < 40 := by omega
      have hC1 := hC.lt
      have HS := Lib.hid (pstart_any (w := wr) id0 (by omega) (by decide) hC)
      by_cases h3 : i % 3 = 2
      · have hq : ((i : Int) % 3 == 2) = true := by rw [beq_iff_eq]; omega
        clear h3
        go_wp2_with fail
        refine HS.out.mono ?_
        rintro e w2 hp2
        obtain ⟨g2, rfl, hg2, hgl2, hP2, hC2, hF2⟩ := hp2.at_ id0 (by omega)
        have HT := Lib.hid (ptick_say (w := w2) (by omega) (by omega) (by decide) (by omega) (by omega) (by omega) (by omega) (by omega) (by omega) hC2)
        clear HS hp2
        go_wp2_with fail
        refine HT.out.mono ?_
        rintro e w3 hp3
        obtain ⟨g3, rfl, hg3, hgl3, hP3, hC3, hF3⟩ := hp3.at_ (by omega) (by omega)
        have hF4 : Fr [] w w3 := (hF.sub hF2 (fun y hy => by simp at hy; subst hy; right; omega)).sub hF3 (fun y hy => by simp at hy; subst hy; right; omega)
        obtain ⟨p0, p1, p2, p3⟩ := pkt_c hP3
        have hne : (id + 1 + 1 == id) = false := by rw [beq_eq_false_iff_ne]; omega
        clear HT hp3 hF2 hF3 hC2 hP2 hF hC
        go_wp2_with fail
        refine (S'.out _ _).mono ?_
        rintro e w4 ⟨rfl, hF5⟩
        have hP4 := hF5.blk hP3 (by simp)
        have hC4 := hF5.blk hC3 (by simp)
        have hF6 := hF4.trans hF5
        clear p0 p1 p2 p3 hP3 hC3 hF4 hF5
        obtain ⟨p0, p1, p2, p3⟩ := pkt_c hP4
        go_wp2
        go_roundw
        case rel => exact ⟨i + 1, id + 1 + 1, 0, 0 + 1, true, false, by omega, by go_num, rfl, by omega, by omega, hC4, hF6⟩
        case measure => (simp [intOf]) <;> omega
      · have hq : ((i : Int) % 3 == 2) = false := by rw [beq_eq_false_iff_ne]; omega
        clear h3
        go_wp2_with fail
        refine HS.out.mono ?_
        rintro e w2 hp2
        obtain ⟨g2, rfl, hg2, hgl2, hP2, hC2, hF2⟩ := hp2.at_ id0 (by omega)
        have hF4 : Fr [] w w2 := hF.sub hF2 (fun y hy => by simp at hy; subst hy; right; omega)
        obtain ⟨p0, p1, p2, p3⟩ := pkt_c hP2
        have hne : (id + 1 == id) = false := by rw [beq_eq_false_iff_ne]; omega
        clear HS hp2 hF2 hF hC
        go_wp2_with fail
        refine (S'.out _ _).mono ?_
        rintro e w4 ⟨rfl, hF5⟩
        have hP4 := hF5.blk hP2 (by simp)
        have hC4 := hF5.blk hC2 (by simp)
        have hF6 := hF4.trans hF5
        clear p0 p1 p2 p3 hP2 hC2 hF4 hF5
        obtain ⟨p0, p1, p2, p3⟩ := pkt_c hP4
        go_wp2
        go_roundw
        case rel => exact ⟨i + 1, id + 1, 0, 0, true, false, by omega, by go_num, rfl, by omega, by omega, hC4, hF6⟩
        case measure => (simp [intOf]) <;> omega
    · have HD := Lib.hid (pdone_any (w := wr) (by decide) hC)
      go_wp2_with fail
      refine HD.out.mono ?_
      rintro e w2 ⟨rfl, hF2⟩
      go_wp2_with fail
      refine (alive13 _).mono ?_
      rintro e w3 ⟨rfl, hF3⟩
      go_wp2
      go_ret
      exact ⟨rfl, ((hF.trans hF2).trans hF3).below (Nat.le_refl _) (by simp)⟩
theorem papIds_walk (w : World) (n : ByteArray) (hn : n.size ≤ 140737488351232) (s : ByteArray) (hs : s.size ≤ 140737488351232) (N : Int) (N0 : -9223372036854775808 ≤ N) (N1 : N ≤ 9223372036854775807) :
    Calls Try.prog 8 #[.string n, .string s, .int .i64 N] w fun e w' => e = .returned (.bool true) ∧ Below w.heap.size w w' := by
  obtain ⟨n, rfl⟩ : ∃ l, n = B l := ⟨_, B_of n⟩
  obtain ⟨s, rfl⟩ : ∃ l, s = B l := ⟨_, B_of s⟩
  rw [B_size] at hn hs
  by_cases h60 : n.length ≤ 60 ∧ s.length ≤ 60
  · by_cases h1 : 1 ≤ N ∧ N ≤ 40
    · obtain ⟨k, rfl⟩ : ∃ k : Nat, N = k := ⟨N.toNat, by omega⟩
      exact papIds_small w n s k h60.1 h60.2 (by omega) (by omega)
    · have P := Lib.hid (pnew_ok (w := w) n s (r := 5) (wt := 1) h60.1 h60.2 (by omega) (by omega) (by omega) (by omega))
      have h2 : N < 1 ∨ ¬ N < 1 ∧ 40 < N := by omega
      clear h1 h60
      rcases h2 with h2 | ⟨h2, h3⟩
      all_goals
        go_enter Try.func8, Try.ntmps8
        go_wp2_with fail
        refine P.out.mono ?_
        rintro e w1 ⟨g, rfl, hg, hC, hF1⟩
        go_wp2_with fail
        refine (alive13 _).mono ?_
        rintro e w3 ⟨rfl, hF3⟩
        go_wp2
        go_ret
        exact ⟨rfl, (hF1.trans hF3).below (Nat.le_refl _) (by simp)⟩
  · have hE : newE n s 5 1 = 2 := by unfold newE; rw [if_neg h60]
    have P := pnew_bad (w := w) n s (r := 5) (wt := 1) (by omega) (by omega) (by rw [hE]; decide)
    rw [hE] at P
    have P' := Lib.hid P
    clear P hE h60
    go_enter Try.func8, Try.ntmps8
    go_wp2_with fail
    refine P'.out.mono ?_
    rintro e w1 ⟨rfl, hF1⟩
    go_wp2_with fail
    refine (alive13 _).mono ?_
    rintro e w3 ⟨rfl, hF3⟩
    go_wp2
    go_ret
    exact ⟨rfl, (hF1.trans hF3).below (Nat.le_refl _) (by simp)⟩
end Go.Proofs.Ytpljdnocdhppmaa
