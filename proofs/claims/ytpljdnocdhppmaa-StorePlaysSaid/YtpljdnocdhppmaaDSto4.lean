/- the document's store: Set. -/
import Derived.Test.YtpljdnocdhppmaaDSto3
namespace Go.Proofs.Ytpljdnocdhppmaa
open Go.RowKit Go.Maps
set_option linter.unusedVariables false
section
variable {w : World} {g : Nat} {lim calm : Int} {r : Value} {D : List DK}
set_option maxRecDepth 100000 in
set_option maxHeartbeats 4000000 in
theorem dsset_long (f s : List UInt8) (hf : f.length ≤ 140737488355328) (hs : s.length ≤ 140737488355328) (hlong : 60 < f.length ∨ 60 < s.length) :
    Calls Try.prog 39 #[.pointer (some ⟨g, 0, none⟩), .string (B f), .string (B s)] w fun e w' => e = .returned (.int .i64 2) ∧ Fr [] w w' := by
  have hcase : (60 : Int) < f.length ∨ (¬ (60 : Int) < f.length ∧ (60 : Int) < s.length) := by omega
  rcases hcase with h1 | ⟨h1, h2⟩
  all_goals
    go_enter Try.func39, Try.ntmps39
    go_wp2_with fail
    go_ret
    exact ⟨rfl, Fr.refl _ _⟩
set_option maxRecDepth 100000 in
set_option maxHeartbeats 4000000 in
theorem dsset_full (f s : List UInt8) (hf : f.length ≤ 60) (hs : s.length ≤ 60) (hn : dfind D (spN f, spR f) = none) (hl : D.length ≤ 1000) (hfull : 100 ≤ D.length) (h : DSt w g lim calm r D) :
    Calls Try.prog 39 #[.pointer (some ⟨g, 0, none⟩), .string (B f), .string (B s)] w fun e w' => e = .returned (.int .i64 10) ∧ Fr [] w w' := by
  have FD := Lib.hid (dsfind_any f (by omega) hl h)
  rw [hn, show fval none = -1 from rfl] at FD
  obtain ⟨A, cap, rfl⟩ := rown_slice h.row
  have hcp := rown_caps h.row
  have G2 : Hid (∀ W, Fr [] w W → W.cell? ⟨g, 2, none⟩ = some (.slice A D.length cap)) := Lib.hid fun W hW => (hW.blk h.st (by simp)).c 2 _ rfl
  have h1 : ¬ (60 : Int) < f.length := by omega
  have h2 : ¬ (60 : Int) < s.length := by omega
  have h3 : (100 : Int) ≤ D.length := by omega
  clear h hn hf hs
  go_enter Try.func39, Try.ntmps39
  go_wp2_with fail
  refine FD.out.mono ?_
  rintro e w1 ⟨rfl, hF1⟩
  have x0 := G2.out _ hF1
  go_wp2_with fail
  go_ret
  exact ⟨rfl, hF1⟩
set_option maxRecDepth 100000 in
set_option maxHeartbeats 4000000 in
theorem dsset_nothing (f : List UInt8) (hf : f.length ≤ 60) (hn : dfind D (spN f, spR f) = none) (hl : D.length < 100) (h : DSt w g lim calm r D) :
    Calls Try.prog 39 #[.pointer (some ⟨g, 0, none⟩), .string (B f), .string (B [])] w fun e w' => e = .returned (.int .i64 0) ∧ Fr [] w w' := by
  have FD := Lib.hid (dsfind_any f (by omega) (by omega) h)
  rw [hn, show fval none = -1 from rfl] at FD
  obtain ⟨A, cap, rfl⟩ := rown_slice h.row
  have hcp := rown_caps h.row
  have G2 : Hid (∀ W, Fr [] w W → W.cell? ⟨g, 2, none⟩ = some (.slice A D.length cap)) := Lib.hid fun W hW => (hW.blk h.st (by simp)).c 2 _ rfl
  have h1 : ¬ (60 : Int) < f.length := by omega
  have h3 : ¬ (100 : Int) ≤ D.length := by omega
  clear h hn hf
  go_enter Try.func39, Try.ntmps39
  go_wp2_with fail
  refine FD.out.mono ?_
  rintro e w1 ⟨rfl, hF1⟩
  have x0 := G2.out _ hF1
  go_wp2_with fail
  go_ret
  exact ⟨rfl, hF1⟩
set_option maxRecDepth 100000 in
set_option maxHeartbeats 4000000 in
theorem dsset_old (f s : List UInt8) (i : Nat) (k : Kn) (hf : f.length ≤ 60) (hs : s.length ≤ 60) (s0 : s ≠ []) (hn : dfind D (spN f, spR f) = some i) (hi : D[i]? = some ((spN f, spR f), k)) (hl : D.length ≤ 1000) (h : DSt w g lim calm r D) :
    Calls Try.prog 39 #[.pointer (some ⟨g, 0, none⟩), .string (B f), .string (B s)] w fun e w' => e = .returned (.int .i64 0) ∧ DSt w' g lim calm r (D.set i ((spN f, spR f), { k with s := s })) ∧ Fr r.ownBlock.toList w w' := by
  have FD := Lib.hid (dsfind_any f (by omega) hl h)
  rw [hn, show fval (some i) = (i : Int) from rfl] at FD
  obtain ⟨A, cap, rfl⟩ := rown_slice h.row
  obtain ⟨q, rfl, hq, hcell⟩ := RAt.of_own dkL_len h.row i _ hi
  have hil : i < D.length := (List.getElem?_eq_some_iff.1 hi).1
  have hcp := rown_caps h.row
  have hiI : (i : Int) < D.length := by omega
  have hi0 : ¬ (i : Int) < 0 := by omega
  have hi1 : (0 : Int) ≤ i := by omega
  have HH := Lib.hid h
  have HI := Lib.hid hi
  have G2 : Hid (∀ W, Fr [] w W → W.cell? ⟨g, 2, none⟩ = some (.slice (some ⟨q, 0, none⟩) D.length cap) ∧ W.cell? ⟨q, i * 5 + 2, none⟩ = some (.string (B k.s)) ∧ W.frozen? ⟨q, i * 5 + 2, none⟩ = false) := Lib.hid fun W hW => ⟨(hW.blk h.st (by simp)).c 2 _ rfl, hcell W hW 2 _ rfl, (h.fr0 hW).row.frozenAt _⟩
  have h1 : ¬ (60 : Int) < f.length := by omega
  have h2 : ¬ (60 : Int) < s.length := by omega
  have hse : s.isEmpty = false := by simpa using s0
  have hs1 := strB_ne s0
  have hs2 : (s == []) = false := by simpa using s0
  clear h hn hi hcell hcp hf hs
  go_enter Try.func39, Try.ntmps39
  go_wp2_with fail
  refine FD.out.mono ?_
  rintro e w1 ⟨rfl, hF1⟩
  obtain ⟨x0, x2, x1⟩ := G2.out _ hF1
  have HF1 := Lib.hid hF1
  clear hF1 FD
  go_wp2_with fail
  go_ret
  exact ⟨rfl, (HH.out.fr0 HF1.out).put_ i _ ((spN f, spR f), { k with s := s }) HI.out 2 (by decide) _ rfl, (HF1.out.mono (by simp)).setCell (by simp [Value.ownBlock]) _⟩
end
end Go.Proofs.Ytpljdnocdhppmaa
