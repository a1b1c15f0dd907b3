/- ChapOnce, walked (printed by tools/gen_chonce.py). -/
import Derived.Test.YtgkibgglalginaaAlive14
namespace Go.Proofs.Ytgkibgglalginaa
open Go.RowKit
set_option linter.unusedVariables false

theorem qcells {w : World} {b : Nat} {c i : Int} {D : List UInt8} {T : Nat} (h : Blk w b #[.int .i64 c, .int .i64 i, .slice none 0 0, .string (B D)] T) :
    w.cell? ⟨b, 0, none⟩ = some (.int .i64 c) ∧ w.cell? ⟨b, 1, none⟩ = some (.int .i64 i) ∧ w.cell? ⟨b, 2, none⟩ = some (.slice none 0 0) ∧ w.cell? ⟨b, 3, none⟩ = some (.string (B D)) := ⟨h.c 0 _ rfl, h.c 1 _ rfl, h.c 2 _ rfl, h.c 3 _ rfl⟩
set_option maxRecDepth 100000 in
set_option maxHeartbeats 2000000 in
theorem chapOnce_other (w : World) (id : Int) (n rs : List UInt8) (hn : n.length ≤ 140737488351232) (hr : rs.length ≤ 140737488351232) (hi : (id != 1) = true) (hi2 : (id == 1) = false) (hf : pvE rs n = 0) :
    Calls Try.prog 4 #[.int .i64 id, .string (B n), .string (B rs)] w fun e w' => e = .returned (.bool true) ∧ Below w.heap.size w w' := by
  have hv0 : pvE [99, 104, 97, 108, 108, 101, 110, 103, 101] [115, 114, 118] = 0 := by decide +kernel
  have Hv0 := Lib.hid hv0
  have S := Lib.hid fun W : World => snew_ok (w := W) (n := [115, 114, 118]) (r := 3) (wt := 3) (by decide) (by decide) (by decide) (by decide) (by decide)
  have P := Lib.hid fun W => putValue_ok rs n W hf
  obtain ⟨k1, k2, k3⟩ := gv_back rs n hf
  obtain ⟨X, hX⟩ : ∃ X, pvL rs n = X := ⟨_, rfl⟩
  have hXl := pvL_le rs n
  rw [hX] at P k1 k2 k3 hXl
  have K1 := Lib.hid k1
  have K2 := Lib.hid k2
  have K3 := Lib.hid k3
  have HXl := Lib.hid hXl
  clear hX k1 k2 k3 hXl
  clear hv0 hf hn hr
  go_enter Try.func4, Try.ntmps4
  go_wp2_with fail
  refine (S.out _).mono ?_
  rintro e w1 ⟨g, rfl, hg, hS1, hF1⟩
  go_wp2_with fail
  refine (P.out _).mono ?_
  rintro e w2 ⟨rfl, hF2⟩
  have hS2 := hF2.blk hS1 (by simp)
  have hFa := hF1.trans hF2
  clear hS1 hF1 hF2 S P
  have HT := Lib.hid (sstart_any (w := w2) (by decide) (by decide) [99, 104, 97, 108, 108, 101, 110, 103, 101] Hv0.out (by decide) hS2)
  go_wp2_with fail
  refine HT.out.mono ?_
  rintro e w3 ⟨gp, rfl, hgp, hgpl, hP3, hS3, hF3⟩
  have hg2 := hS2.lt
  have hFb := hFa.sub hF3 (fun z hz => by simp at hz; subst hz; right; omega)
  clear HT hS2 hFa hF3
  rw [show ((0 : Int) + 1) % 256 = 1 from rfl] at hP3 hS3
  have HJ := Lib.hid (sjudge_no (w := w3) true (by decide) hS3)
  go_wp2_with fail
  refine HJ.out.mono ?_
  rintro e w3' ⟨rfl, rfl⟩
  have hz3 := hFb.size
  have hg3 := hS3.lt
  have hQ := Blk.new w3 #[.int .i64 2, .int .i64 id, .slice none 0 0, .string (B X)] 37
  have hS4 := hS3.alloc (.cells #[.int .i64 2, .int .i64 id, .slice none 0 0, .string (B X)] 37)
  have hP4 := hP3.fr ((Fr.refl [] w3).alloc (.cells #[.int .i64 2, .int .i64 id, .slice none 0 0, .string (B X)] 37)) hgpl (by simp)
  have hFc := hFb.alloc (.cells #[.int .i64 2, .int .i64 id, .slice none 0 0, .string (B X)] 37)
  have hsz4 : (w3.alloc (.cells #[.int .i64 2, .int .i64 id, .slice none 0 0, .string (B X)] 37)).heap.size = w3.heap.size + 1 := by simp
  have hgp4 : gp < (w3.alloc (.cells #[.int .i64 2, .int .i64 id, .slice none 0 0, .string (B X)] 37)).heap.size := by rw [hsz4]; omega
  clear HJ hS3 hP3 hFb
  have HU := Lib.hid (stake_id id none 0 0 X (by decide) hi (by decide) (by decide) hS4)
  go_wp2_with fail
  refine HU.out.mono ?_
  rintro e w4 ⟨rfl, hF5⟩
  unfold clz
  have hQ5 := hF5.blk hQ (by simp)
  have hS5 := hF5.blk hS4 (by simp)
  have hP5 := hP4.fr hF5 hgp4 (by simp)
  have hFd := hFc.trans hF5
  have hgp5 : gp < w4.heap.size := by have := hF5.size; omega
  have hQ6 := hQ5.alloc (.cells #[.string ⟨#[]⟩, .string ⟨#[]⟩, .string ⟨#[]⟩, .int .i64 0] 39)
  have hS6 := hS5.alloc (.cells #[.string ⟨#[]⟩, .string ⟨#[]⟩, .string ⟨#[]⟩, .int .i64 0] 39)
  have hP6 := hP5.fr ((Fr.refl [] w4).alloc (.cells #[.string ⟨#[]⟩, .string ⟨#[]⟩, .string ⟨#[]⟩, .int .i64 0] 39)) hgp5 (by simp)
  have hFe := hFd.alloc (.cells #[.string ⟨#[]⟩, .string ⟨#[]⟩, .string ⟨#[]⟩, .int .i64 0] 39)
  obtain ⟨q0, q1, q2, q3⟩ := qcells hQ6
  obtain ⟨p0, p1, p2, p3⟩ := hP6
  have HV := Lib.hid (stake_id id none 0 0 X (by decide) hi (by decide) (by decide) hS6)
  clear HU hQ hS4 hP4 hFc hQ5 hS5 hP5 hFd hF5 hsz4 hgp4
  go_wp2_with fail
  refine HV.out.mono ?_
  rintro e w5 ⟨rfl, hF7⟩
  unfold clz
  have hFf := (hFe.trans hF7).alloc (.cells #[.string ⟨#[]⟩, .string ⟨#[]⟩, .string ⟨#[]⟩, .int .i64 0] 39)
  clear HV q0 q1 q2 q3 p0 p1 p2 p3 hQ6 hS6 hFe hF7
  go_wp2_with fail
  refine (alive14 _).mono ?_
  rintro e w6 ⟨rfl, hF8⟩
  go_wp2
  go_ret
  exact ⟨rfl, (hFf.trans hF8).below (Nat.le_refl _) (by simp)⟩
set_option maxRecDepth 100000 in
set_option maxHeartbeats 2000000 in
theorem chapOnce_otherbad (w : World) (id : Int) (n rs : List UInt8) (hn : n.length ≤ 140737488351232) (hr : rs.length ≤ 140737488351232) (hi : (id != 1) = true) (hi2 : (id == 1) = false) (hf : pvE rs n ≠ 0) :
    Calls Try.prog 4 #[.int .i64 id, .string (B n), .string (B rs)] w fun e w' => e = .returned (.bool true) ∧ Below w.heap.size w w' := by
  have hv0 : pvE [99, 104, 97, 108, 108, 101, 110, 103, 101] [115, 114, 118] = 0 := by decide +kernel
  have Hv0 := Lib.hid hv0
  have S := Lib.hid fun W : World => snew_ok (w := W) (n := [115, 114, 118]) (r := 3) (wt := 3) (by decide) (by decide) (by decide) (by decide) (by decide)
  have P := Lib.hid fun W => putValue_bad rs n W (by omega) (by omega) hf
  have hne : (pvE rs n == 0) = false := by rw [beq_eq_false_iff_ne]; exact hf
  obtain ⟨X2, hX2⟩ : ∃ X, pvE rs n = X := ⟨_, rfl⟩
  rw [hX2] at P hne
  clear hX2
  clear hv0 hf hn hr
  go_enter Try.func4, Try.ntmps4
  go_wp2_with fail
  refine (S.out _).mono ?_
  rintro e w1 ⟨g, rfl, hg, hS1, hF1⟩
  go_wp2_with fail
  refine (P.out _).mono ?_
  rintro e w2 ⟨rfl, rfl⟩
  have hS2 := hS1
  have hFa := hF1
  clear hS1 hF1 S P
  have HT := Lib.hid (sstart_any (w := w1) (by decide) (by decide) [99, 104, 97, 108, 108, 101, 110, 103, 101] Hv0.out (by decide) hS2)
  go_wp2_with fail
  refine HT.out.mono ?_
  rintro e w3 ⟨gp, rfl, hgp, hgpl, hP3, hS3, hF3⟩
  have hg2 := hS2.lt
  have hFb := hFa.sub hF3 (fun z hz => by simp at hz; subst hz; right; omega)
  clear HT hS2 hFa hF3
  rw [show ((0 : Int) + 1) % 256 = 1 from rfl] at hP3 hS3
  have HJ := Lib.hid (sjudge_no (w := w3) true (by decide) hS3)
  go_wp2_with fail
  refine HJ.out.mono ?_
  rintro e w3' ⟨rfl, rfl⟩
  have hz3 := hFb.size
  have hg3 := hS3.lt
  have hQ := Blk.new w3 #[.int .i64 2, .int .i64 id, .slice none 0 0, .string (B [])] 37
  have hS4 := hS3.alloc (.cells #[.int .i64 2, .int .i64 id, .slice none 0 0, .string (B [])] 37)
  have hP4 := hP3.fr ((Fr.refl [] w3).alloc (.cells #[.int .i64 2, .int .i64 id, .slice none 0 0, .string (B [])] 37)) hgpl (by simp)
  have hFc := hFb.alloc (.cells #[.int .i64 2, .int .i64 id, .slice none 0 0, .string (B [])] 37)
  have hsz4 : (w3.alloc (.cells #[.int .i64 2, .int .i64 id, .slice none 0 0, .string (B [])] 37)).heap.size = w3.heap.size + 1 := by simp
  have hgp4 : gp < (w3.alloc (.cells #[.int .i64 2, .int .i64 id, .slice none 0 0, .string (B [])] 37)).heap.size := by rw [hsz4]; omega
  clear HJ hS3 hP3 hFb
  have HU := Lib.hid (stake_id id none 0 0 [] (by decide) hi (by decide) (by decide) hS4)
  go_wp2_with fail
  refine HU.out.mono ?_
  rintro e w4 ⟨rfl, hF5⟩
  unfold clz
  have hQ5 := hF5.blk hQ (by simp)
  have hS5 := hF5.blk hS4 (by simp)
  have hP5 := hP4.fr hF5 hgp4 (by simp)
  have hFd := hFc.trans hF5
  have hgp5 : gp < w4.heap.size := by have := hF5.size; omega
  have hQ6 := hQ5.alloc (.cells #[.string ⟨#[]⟩, .string ⟨#[]⟩, .string ⟨#[]⟩, .int .i64 0] 39)
  have hS6 := hS5.alloc (.cells #[.string ⟨#[]⟩, .string ⟨#[]⟩, .string ⟨#[]⟩, .int .i64 0] 39)
  have hP6 := hP5.fr ((Fr.refl [] w4).alloc (.cells #[.string ⟨#[]⟩, .string ⟨#[]⟩, .string ⟨#[]⟩, .int .i64 0] 39)) hgp5 (by simp)
  have hFe := hFd.alloc (.cells #[.string ⟨#[]⟩, .string ⟨#[]⟩, .string ⟨#[]⟩, .int .i64 0] 39)
  obtain ⟨q0, q1, q2, q3⟩ := qcells hQ6
  obtain ⟨p0, p1, p2, p3⟩ := hP6
  have HV := Lib.hid (stake_id id none 0 0 [] (by decide) hi (by decide) (by decide) hS6)
  clear HU hQ hS4 hP4 hFc hQ5 hS5 hP5 hFd hF5 hsz4 hgp4
  go_wp2_with fail
  refine HV.out.mono ?_
  rintro e w5 ⟨rfl, hF7⟩
  unfold clz
  have hFf := (hFe.trans hF7).alloc (.cells #[.string ⟨#[]⟩, .string ⟨#[]⟩, .string ⟨#[]⟩, .int .i64 0] 39)
  clear HV q0 q1 q2 q3 p0 p1 p2 p3 hQ6 hS6 hFe hF7
  go_wp2_with fail
  refine (alive14 _).mono ?_
  rintro e w6 ⟨rfl, hF8⟩
  go_wp2
  go_ret
  exact ⟨rfl, (hFf.trans hF8).below (Nat.le_refl _) (by simp)⟩
set_option maxRecDepth 100000 in
set_option maxHeartbeats 2000000 in
theorem chapOnce_bad (w : World) (n rs : List UInt8) (hn : n.length ≤ 140737488351232) (hr : rs.length ≤ 140737488351232) (hf : pvE rs n ≠ 0) :
    Calls Try.prog 4 #[.int .i64 1, .string (B n), .string (B rs)] w fun e w' => e = .returned (.bool true) ∧ Below w.heap.size w w' := by
  have hv0 : pvE [99, 104, 97, 108, 108, 101, 110, 103, 101] [115, 114, 118] = 0 := by decide +kernel
  have Hv0 := Lib.hid hv0
  have S := Lib.hid fun W : World => snew_ok (w := W) (n := [115, 114, 118]) (r := 3) (wt := 3) (by decide) (by decide) (by decide) (by decide) (by decide)
  have P := Lib.hid fun W => putValue_bad rs n W (by omega) (by omega) hf
  have hne : (pvE rs n == 0) = false := by rw [beq_eq_false_iff_ne]; exact hf
  obtain ⟨X2, hX2⟩ : ∃ X, pvE rs n = X := ⟨_, rfl⟩
  rw [hX2] at P hne
  clear hX2
  clear hv0 hf hn hr
  go_enter Try.func4, Try.ntmps4
  go_wp2_with fail
  refine (S.out _).mono ?_
  rintro e w1 ⟨g, rfl, hg, hS1, hF1⟩
  go_wp2_with fail
  refine (P.out _).mono ?_
  rintro e w2 ⟨rfl, rfl⟩
  have hS2 := hS1
  have hFa := hF1
  clear hS1 hF1 S P
  have HT := Lib.hid (sstart_any (w := w1) (by decide) (by decide) [99, 104, 97, 108, 108, 101, 110, 103, 101] Hv0.out (by decide) hS2)
  go_wp2_with fail
  refine HT.out.mono ?_
  rintro e w3 ⟨gp, rfl, hgp, hgpl, hP3, hS3, hF3⟩
  have hg2 := hS2.lt
  have hFb := hFa.sub hF3 (fun z hz => by simp at hz; subst hz; right; omega)
  clear HT hS2 hFa hF3
  rw [show ((0 : Int) + 1) % 256 = 1 from rfl] at hP3 hS3
  have HJ := Lib.hid (sjudge_no (w := w3) true (by decide) hS3)
  go_wp2_with fail
  refine HJ.out.mono ?_
  rintro e w3' ⟨rfl, rfl⟩
  have hz3 := hFb.size
  have hg3 := hS3.lt
  have hQ := Blk.new w3 #[.int .i64 2, .int .i64 1, .slice none 0 0, .string (B [])] 37
  have hS4 := hS3.alloc (.cells #[.int .i64 2, .int .i64 1, .slice none 0 0, .string (B [])] 37)
  have hP4 := hP3.fr ((Fr.refl [] w3).alloc (.cells #[.int .i64 2, .int .i64 1, .slice none 0 0, .string (B [])] 37)) hgpl (by simp)
  have hFc := hFb.alloc (.cells #[.int .i64 2, .int .i64 1, .slice none 0 0, .string (B [])] 37)
  have hsz4 : (w3.alloc (.cells #[.int .i64 2, .int .i64 1, .slice none 0 0, .string (B [])] 37)).heap.size = w3.heap.size + 1 := by simp
  have hgp4 : gp < (w3.alloc (.cells #[.int .i64 2, .int .i64 1, .slice none 0 0, .string (B [])] 37)).heap.size := by rw [hsz4]; omega
  clear HJ hS3 hP3 hFb
  have HU := Lib.hid (stake_bad 1 none 0 0 [] (by decide) (by decide) (by decide) (by decide) (by decide) (by decide) hS4)
  go_wp2_with fail
  refine HU.out.mono ?_
  rintro e w4 ⟨rfl, hF5⟩
  unfold clz
  have hQ5 := hF5.blk hQ (by simp)
  have hS5 := hF5.blk hS4 (by simp)
  have hP5 := hP4.fr hF5 hgp4 (by simp)
  have hFd := hFc.trans hF5
  have hgp5 : gp < w4.heap.size := by have := hF5.size; omega
  have hQ6 := hQ5.alloc (.cells #[.string ⟨#[]⟩, .string ⟨#[]⟩, .string ⟨#[]⟩, .int .i64 0] 39)
  have hS6 := hS5.alloc (.cells #[.string ⟨#[]⟩, .string ⟨#[]⟩, .string ⟨#[]⟩, .int .i64 0] 39)
  have hP6 := hP5.fr ((Fr.refl [] w4).alloc (.cells #[.string ⟨#[]⟩, .string ⟨#[]⟩, .string ⟨#[]⟩, .int .i64 0] 39)) hgp5 (by simp)
  have hFe := hFd.alloc (.cells #[.string ⟨#[]⟩, .string ⟨#[]⟩, .string ⟨#[]⟩, .int .i64 0] 39)
  obtain ⟨q0, q1, q2, q3⟩ := qcells hQ6
  obtain ⟨p0, p1, p2, p3⟩ := hP6
  have HV := Lib.hid (stake_bad 1 none 0 0 [] (by decide) (by decide) (by decide) (by decide) (by decide) (by decide) hS6)
  clear HU hQ hS4 hP4 hFc hQ5 hS5 hP5 hFd hF5 hsz4 hgp4
  go_wp2_with fail
  refine HV.out.mono ?_
  rintro e w5 ⟨rfl, hF7⟩
  unfold clz
  have hFf := (hFe.trans hF7).alloc (.cells #[.string ⟨#[]⟩, .string ⟨#[]⟩, .string ⟨#[]⟩, .int .i64 0] 39)
  clear HV q0 q1 q2 q3 p0 p1 p2 p3 hQ6 hS6 hFe hF7
  go_wp2_with fail
  refine (alive14 _).mono ?_
  rintro e w6 ⟨rfl, hF8⟩
  go_wp2
  go_ret
  exact ⟨rfl, (hFf.trans hF8).below (Nat.le_refl _) (by simp)⟩
set_option maxRecDepth 100000 in
set_option maxHeartbeats 2000000 in
theorem chapOnce_good (w : World) (n rs : List UInt8) (hn : n.length ≤ 140737488351232) (hr : rs.length ≤ 140737488351232) (hf : pvE rs n = 0) :
    Calls Try.prog 4 #[.int .i64 1, .string (B n), .string (B rs)] w fun e w' => e = .returned (.bool true) ∧ Below w.heap.size w w' := by
  have hv0 : pvE [99, 104, 97, 108, 108, 101, 110, 103, 101] [115, 114, 118] = 0 := by decide +kernel
  have Hv0 := Lib.hid hv0
  have S := Lib.hid fun W : World => snew_ok (w := W) (n := [115, 114, 118]) (r := 3) (wt := 3) (by decide) (by decide) (by decide) (by decide) (by decide)
  have P := Lib.hid fun W => putValue_ok rs n W hf
  obtain ⟨k1, k2, k3⟩ := gv_back rs n hf
  obtain ⟨X, hX⟩ : ∃ X, pvL rs n = X := ⟨_, rfl⟩
  have hXl := pvL_le rs n
  rw [hX] at P k1 k2 k3 hXl
  have K1 := Lib.hid k1
  have K2 := Lib.hid k2
  have K3 := Lib.hid k3
  have HXl := Lib.hid hXl
  clear hX k1 k2 k3 hXl
  clear hv0 hf hn hr
  go_enter Try.func4, Try.ntmps4
  go_wp2_with fail
  refine (S.out _).mono ?_
  rintro e w1 ⟨g, rfl, hg, hS1, hF1⟩
  go_wp2_with fail
  refine (P.out _).mono ?_
  rintro e w2 ⟨rfl, hF2⟩
  have hS2 := hF2.blk hS1 (by simp)
  have hFa := hF1.trans hF2
  clear hS1 hF1 hF2 S P
  have HT := Lib.hid (sstart_any (w := w2) (by decide) (by decide) [99, 104, 97, 108, 108, 101, 110, 103, 101] Hv0.out (by decide) hS2)
  go_wp2_with fail
  refine HT.out.mono ?_
  rintro e w3 ⟨gp, rfl, hgp, hgpl, hP3, hS3, hF3⟩
  have hg2 := hS2.lt
  have hFb := hFa.sub hF3 (fun z hz => by simp at hz; subst hz; right; omega)
  clear HT hS2 hFa hF3
  rw [show ((0 : Int) + 1) % 256 = 1 from rfl] at hP3 hS3
  have HJ := Lib.hid (sjudge_no (w := w3) true (by decide) hS3)
  go_wp2_with fail
  refine HJ.out.mono ?_
  rintro e w3' ⟨rfl, rfl⟩
  have hz3 := hFb.size
  have hg3 := hS3.lt
  have hQ := Blk.new w3 #[.int .i64 2, .int .i64 1, .slice none 0 0, .string (B X)] 37
  have hS4 := hS3.alloc (.cells #[.int .i64 2, .int .i64 1, .slice none 0 0, .string (B X)] 37)
  have hP4 := hP3.fr ((Fr.refl [] w3).alloc (.cells #[.int .i64 2, .int .i64 1, .slice none 0 0, .string (B X)] 37)) hgpl (by simp)
  have hFc := hFb.alloc (.cells #[.int .i64 2, .int .i64 1, .slice none 0 0, .string (B X)] 37)
  have hsz4 : (w3.alloc (.cells #[.int .i64 2, .int .i64 1, .slice none 0 0, .string (B X)] 37)).heap.size = w3.heap.size + 1 := by simp
  have hgp4 : gp < (w3.alloc (.cells #[.int .i64 2, .int .i64 1, .slice none 0 0, .string (B X)] 37)).heap.size := by rw [hsz4]; omega
  clear HJ hS3 hP3 hFb
  have HU := Lib.hid (stake_ok 1 none 0 0 X K1.out (by decide) (by decide) (by decide) (by decide) hS4)
  rw [K2.out, K3.out] at HU
  go_wp2_with fail
  refine HU.out.mono ?_
  rintro e w4 ⟨rfl, hS5, hF5⟩
  unfold clm
  have hQ5 := hF5.blk hQ (by simp; omega)
  have hP5 := hP4.fr hF5 hgp4 (by simp; omega)
  have hFd := hFc.sub hF5 (fun z hz => by simp at hz; subst hz; right; omega)
  have hgp5 : gp < w4.heap.size := by have := hF5.size; omega
  have hQ6 := hQ5.alloc (.cells #[.string (B n), .string (B [99, 104, 97, 108, 108, 101, 110, 103, 101]), .string (B rs), .int .i64 1] 39)
  have hS6 := hS5.alloc (.cells #[.string (B n), .string (B [99, 104, 97, 108, 108, 101, 110, 103, 101]), .string (B rs), .int .i64 1] 39)
  have hP6 := hP5.fr ((Fr.refl [] w4).alloc (.cells #[.string (B n), .string (B [99, 104, 97, 108, 108, 101, 110, 103, 101]), .string (B rs), .int .i64 1] 39)) hgp5 (by simp)
  have hFe := hFd.alloc (.cells #[.string (B n), .string (B [99, 104, 97, 108, 108, 101, 110, 103, 101]), .string (B rs), .int .i64 1] 39)
  have hC6 := Blk.new w4 (#[.string (B n), .string (B [99, 104, 97, 108, 108, 101, 110, 103, 101]), .string (B rs), .int .i64 1] : Array Value) 39
  have hcl : w4.heap.size < (w4.alloc (.cells #[.string (B n), .string (B [99, 104, 97, 108, 108, 101, 110, 103, 101]), .string (B rs), .int .i64 1] 39)).heap.size := by simp
  obtain ⟨q0, q1, q2, q3⟩ := qcells hQ6
  obtain ⟨p0, p1, p2, p3⟩ := hP6
  have HV := Lib.hid (stake_idle 2 1 none 0 0 X (by decide) hS6)
  clear HU hQ hS4 hP4 hFc hQ5 hS5 hP5 hFd hF5 hsz4 hgp4
  go_wp2_with fail
  refine HV.out.mono ?_
  rintro e w5 ⟨rfl, hF7⟩
  unfold clz
  have hFf := (hFe.trans hF7).alloc (.cells #[.string ⟨#[]⟩, .string ⟨#[]⟩, .string ⟨#[]⟩, .int .i64 0] 39)
  have hC7 := (hF7.blk hC6 (by simp)).alloc (.cells #[.string ⟨#[]⟩, .string ⟨#[]⟩, .string ⟨#[]⟩, .int .i64 0] 39)
  clear HV q0 q1 q2 q3 p0 p1 p2 p3 hQ6 hS6 hFe hF7
  go_wp2_with fail
  refine (alive14 _).mono ?_
  rintro e w6 ⟨rfl, hF8⟩
  have hC8 := hF8.blk hC7 (by simp)
  have d0 : w6.cell? ⟨w4.heap.size, 0, none⟩ = some (.string (B n)) := hC8.c 0 _ rfl
  have d1 : w6.cell? ⟨w4.heap.size, 1, none⟩ = some (.string (B [99, 104, 97, 108, 108, 101, 110, 103, 101])) := hC8.c 1 _ rfl
  have d2 : w6.cell? ⟨w4.heap.size, 2, none⟩ = some (.string (B rs)) := hC8.c 2 _ rfl
  go_wp2
  go_ret
  exact ⟨rfl, (hFf.trans hF8).below (Nat.le_refl _) (by simp)⟩

theorem chapOnce_walk (w : World) (id : Int) (i0 : -9223372036854775808 ≤ id) (i1 : id ≤ 9223372036854775807) (n : ByteArray) (hn : n.size ≤ 140737488351232) (r : ByteArray) (hr : r.size ≤ 140737488351232) :
    Calls Try.prog 4 #[.int .i64 id, .string n, .string r] w fun e w' => e = .returned (.bool true) ∧ Below w.heap.size w w' := by
  obtain ⟨n, rfl⟩ : ∃ l, n = B l := ⟨_, B_of n⟩
  obtain ⟨r, rfl⟩ : ∃ l, r = B l := ⟨_, B_of r⟩
  rw [B_size] at hn hr
  by_cases hid : id = 1
  · subst hid
    by_cases hf : pvE r n = 0
    · exact chapOnce_good w n r hn hr hf
    · exact chapOnce_bad w n r hn hr hf
  · by_cases hf : pvE r n = 0
    · exact chapOnce_other w id n r hn hr (by simpa using hid) (by simpa using hid) hf
    · exact chapOnce_otherbad w id n r hn hr (by simpa using hid) (by simpa using hid) hf
end Go.Proofs.Ytgkibgglalginaa
