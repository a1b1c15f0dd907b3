/- the document reads a frame of discovery (printed by tools/gen_dhod.py). -/
import Derived.Test.YtfchbppfbepelaaGreatDHoB
import Derived.Test.YtfchbppfbepelaaGreatPHo4
namespace Go.Proofs.YtfchbppfbepelaaGreat
open Go.RowKit
set_option linter.unusedVariables false
section
variable {P : Program}
theorem ret_cell4 {fn : Func} {R : Ending → World → Prop} {a : Act} {w : World} (s r t : Nat) (T : TypeId) (hres : fn.results = #[.cell s T, .tmp r, .tmp t]) (b Tb : Nat) (cs : Array Value) (d : TypeDesc) (hB : Blk w b cs Tb)
    (ha : a.tmps.getD s undef = .pointer (some ⟨b, 0, none⟩)) (hu : P.underlying T = some d) (hd : d.isRow = true) (hi : (P.info? T).map (·.size) = some cs.size)
    (hdef : a.defers = []) (hR : R (.returned (.tuple #[.agg cs, a.tmps.getD r undef, a.tmps.getD t undef])) w) : bodyPost P fn R .ret a w := by
  have hload := run_loadVar_mid (P := P) w b 0 T cs.toList d hB.rangeAt hu hd (by rw [Array.length_toList]; exact hi)
  rw [Array.toArray_toList] at hload
  refine bodyPost_ret (v := .tuple #[.agg cs, a.tmps.getD r undef, a.tmps.getD t undef]) ?_ hdef hR
  rw [Array.getD_eq_getD_getElem?] at ha
  simp [results, hres, ha, asAddr, hload]
end
/-- what is read of a frame -/
def readG (f : Eth) : Option (Int × Int × List Tg) := if f.2.2.1 = 34915 then (match pkt f.2.2.2 with | none => none | some (c, ss, d) => (tparse 20 d).map fun l => (c, ss, l)) else none
theorem readF_G (m : Mc) (f : Eth) : readF m f = if mcEq f.1 m = true then readG f else none := by
  unfold readF readG
  by_cases h1 : f.2.2.1 = 34915
  · by_cases h2 : mcEq f.1 m = true
    · rw [if_pos ⟨h1, h2⟩, if_pos h2, if_pos h1]
      cases pkt f.2.2.2 <;> rfl
    · rw [if_neg (fun hh => h2 hh.2), if_neg h2]
  · rw [if_neg (fun hh => h1 hh.1), if_neg h1]
    split <;> rfl
def RdP (w : World) : Option (Int × Int × List Tg) → Ending → World → Prop
  | some (c, ss, l), e, w' => ∃ d A cap, e = .returned (.tuple #[.agg #[.int .i64 c, .int .i64 ss, .string (B d)], .slice A l.length cap, .bool true]) ∧ w'.ownsRow 0 272 2 (.slice A l.length cap) l.length (tgF l) ∧ Fr [] w w'
  | none, e, w' => ∃ c ss d, e = .returned (.tuple #[.agg #[.int .i64 c, .int .i64 ss, .string (B d)], .slice none 0 0, .bool false]) ∧ Fr [] w w'
section
variable {w : World}
set_option maxRecDepth 100000 in
set_option maxHeartbeats 8000000 in
theorem read_any (k s : Mc) (ty : Int) (d0 : List UInt8) (hd0 : d0.length ≤ 3000) :
    Calls Tryz.prog 208 #[.agg (ethC k s ty d0)] w (RdP w (readG (k, s, ty, d0))) := by
  have HD0 := Lib.hid hd0
  obtain ⟨k1, k2, k3, k4, k5, k6⟩ := k
  obtain ⟨s1, s2, s3, s4, s5, s6⟩ := s
  unfold ethC
  simp only
  have hF0 := ((Fr.refl [] w).alloc (.cells #[.int .u8 k1, .int .u8 k2, .int .u8 k3, .int .u8 k4, .int .u8 k5, .int .u8 k6, .int .u8 s1, .int .u8 s2, .int .u8 s3, .int .u8 s4, .int .u8 s5, .int .u8 s6, .int .i64 ty, .string (B d0)] 113 (0, 0))).alloc (.cells #[.int .i64 0, .int .i64 0, .string ⟨#[]⟩] 259 (0, 0))
  have hE0 := (Blk.new w #[.int .u8 k1, .int .u8 k2, .int .u8 k3, .int .u8 k4, .int .u8 k5, .int .u8 k6, .int .u8 s1, .int .u8 s2, .int .u8 s3, .int .u8 s4, .int .u8 s5, .int .u8 s6, .int .i64 ty, .string (B d0)] 113).alloc (.cells #[.int .i64 0, .int .i64 0, .string ⟨#[]⟩] 259 (0, 0))
  have hQ0 := Blk.new (w.alloc (.cells #[.int .u8 k1, .int .u8 k2, .int .u8 k3, .int .u8 k4, .int .u8 k5, .int .u8 k6, .int .u8 s1, .int .u8 s2, .int .u8 s3, .int .u8 s4, .int .u8 s5, .int .u8 s6, .int .i64 ty, .string (B d0)] 113 (0, 0))) #[.int .i64 0, .int .i64 0, .string ⟨#[]⟩] 259
  rw [show (w.alloc (.cells #[.int .u8 k1, .int .u8 k2, .int .u8 k3, .int .u8 k4, .int .u8 k5, .int .u8 k6, .int .u8 s1, .int .u8 s2, .int .u8 s3, .int .u8 s4, .int .u8 s5, .int .u8 s6, .int .i64 ty, .string (B d0)] 113 (0, 0))).heap.size = w.heap.size + 1 from by simp] at hQ0
  have a12 := hE0.c 12 _ rfl
  have a13 := hE0.c 13 _ rfl
  clear hd0
  by_cases hty : ty = 34915
  · have t1 : (ty != 34915) = false := by simpa using hty
    have HRG : Hid (readG (⟨k1, k2, k3, k4, k5, k6⟩, ⟨s1, s2, s3, s4, s5, s6⟩, ty, d0) = (match pkt d0 with | none => none | some (c, ss, d) => (tparse 20 d).map fun l => (c, ss, l))) := Lib.hid (by unfold readG; rw [if_pos hty])
    clear hty
    cases hp : pkt d0 with
    | none =>
      have TG := Lib.hid fun W => dget_none (w := W) d0 HD0.out hp
      rw [HRG.out, hp]
      clear hp HRG
      go_enter Tryz.func208, Tryz.ntmps208
      go_wp2_with fail
      refine (TG.out _).mono ?_
      rintro e w5 ⟨x, hx, rfl, hF5⟩
      have hx2 : (x != 0) = true := by simpa using hx
      have hQ6 := (hF5.blk hQ0 (by simp)).alloc (.cells #[.int .i64 0, .int .i64 0, .string ⟨#[]⟩] 259 (0, 0))
      have HF6 := Lib.hid ((hF0.trans hF5).alloc (.cells #[.int .i64 0, .int .i64 0, .string ⟨#[]⟩] 259 (0, 0)))
      obtain ⟨q1, hq1⟩ : ∃ q, w.heap.size + 1 = q := ⟨_, rfl⟩
      have HQS := Lib.hid (show w.heap.size ≤ q1 from by omega)
      rw [hq1] at hQ6
      (try rw [hq1])
      have HQ1 := Lib.hid hQ6
      have z0 := HQ1.out.c 0 _ rfl
      have z1 := HQ1.out.c 1 _ rfl
      have z2 := HQ1.out.c 2 _ rfl
      have f0 := HQ1.out.fz 0
      have f1 := HQ1.out.fz 1
      have f2 := HQ1.out.fz 2
      clear hF5 TG hx hF0 hE0 hQ0 a12 a13 hQ6 hq1
      go_wp2_with fail
      have hBB := (((HQ1.out).set 0 (.int .i64 0)).set 1 (.int .i64 0)).set 2 (.string ⟨#[]⟩)
      have hFF := (((Fr.refl [q1] (w5.alloc (.cells #[.int .i64 0, .int .i64 0, .string ⟨#[]⟩] 259 (0, 0)))).setCell (p := ⟨q1, 0, none⟩) (by simp) (.int .i64 0)).setCell (p := ⟨q1, 1, none⟩) (by simp) (.int .i64 0)).setCell (p := ⟨q1, 2, none⟩) (by simp) (.string ⟨#[]⟩)
      simp only [List.setIfInBounds_toArray, List.set_cons_zero, List.set_cons_succ] at hBB
      have hFR := HF6.out.sub hFF (fun x hx => by simp at hx; subst hx; exact Or.inr HQS.out)
      exact ret_cell4 2 3 4 259 rfl q1 259 _ _ hBB rfl Tryz.underlying259 rfl (by kernel_rfl) rfl ⟨0, 0, [], rfl, hFR⟩
    | some x =>
      obtain ⟨c, ss, d⟩ := x
      have TG := Lib.hid fun W => dget_some (w := W) d0 HD0.out hp
      have hdl : d.length ≤ 3000 := by obtain ⟨_, _, _, _, hh⟩ := pkt_some hp; omega
      have TT := Lib.hid fun W => dgettags_any (w := W) d hdl
      rw [HRG.out, hp]
      simp only
      obtain ⟨O, hO⟩ : ∃ O, tparse 20 d = O := ⟨_, rfl⟩
      rw [hO] at TT ⊢
      clear hp HRG hdl hO
      go_enter Tryz.func208, Tryz.ntmps208
      go_wp2_with fail
      refine (TG.out _).mono ?_
      rintro e w5 ⟨rfl, hF5⟩
      have hQ6 := (hF5.blk hQ0 (by simp)).alloc (.cells #[.int .i64 c, .int .i64 ss, .string (B d)] 259 (0, 0))
      have hF6 := (hF0.trans hF5).alloc (.cells #[.int .i64 c, .int .i64 ss, .string (B d)] 259 (0, 0))
      have hD6 := Blk.new w5 #[.int .i64 c, .int .i64 ss, .string (B d)] 259
      have x2 : (w5.alloc (.cells #[.int .i64 c, .int .i64 ss, .string (B d)] 259 (0, 0))).cell? ⟨w5.heap.size, 2, none⟩ = some (.string (B d)) := hD6.c 2 _ rfl
      obtain ⟨q1, hq1⟩ : ∃ q, w.heap.size + 1 = q := ⟨_, rfl⟩
      have HQS := Lib.hid (show w.heap.size ≤ q1 from by omega)
      rw [hq1] at hQ6
      (try rw [hq1])
      clear hF5 TG hF0 hE0 hQ0 a12 a13
      go_wp2_with fail
      (try rw [hq1])
      clear hq1
      obtain ⟨qd, hqd⟩ : ∃ x, w5.heap.size = x := ⟨_, rfl⟩
      obtain ⟨W6, hW6⟩ : ∃ x, w5.alloc (.cells #[.int .i64 c, .int .i64 ss, .string (B d)] 259 (0, 0)) = x := ⟨_, rfl⟩
      rw [hW6] at hF6 hD6 hQ6 ⊢
      rw [hqd] at hD6 ⊢
      clear hqd hW6 x2
      refine (TT.out _).mono ?_
      cases O with
      | none =>
        rintro e w7 ⟨x, hx, rfl, hF7⟩
        have hx2 : (x == 0) = false := by simpa using hx
        have HF7 := Lib.hid (hF6.trans hF7)
        have HQ1 := Lib.hid (hF7.blk hQ6 (by simp))
        have hD7 := hF7.blk hD6 (by simp)
        have y0 := hD7.c 0 _ rfl
        have y1 := hD7.c 1 _ rfl
        have y2 := hD7.c 2 _ rfl
        have z0 := HQ1.out.c 0 _ rfl
        have z1 := HQ1.out.c 1 _ rfl
        have z2 := HQ1.out.c 2 _ rfl
        have f0 := HQ1.out.fz 0
        have f1 := HQ1.out.fz 1
        have f2 := HQ1.out.fz 2
        clear hF6 hD6 hQ6 hF7 hD7 TT hx
        go_wp2_with fail
        have hBB := (((HQ1.out).set 0 (.int .i64 c)).set 1 (.int .i64 ss)).set 2 (.string (B d))
        have hFF := (((Fr.refl [q1] w7).setCell (p := ⟨q1, 0, none⟩) (by simp) (.int .i64 c)).setCell (p := ⟨q1, 1, none⟩) (by simp) (.int .i64 ss)).setCell (p := ⟨q1, 2, none⟩) (by simp) (.string (B d))
        simp only [List.setIfInBounds_toArray, List.set_cons_zero, List.set_cons_succ] at hBB
        have hFR := HF7.out.sub hFF (fun x hx => by simp at hx; subst hx; exact Or.inr HQS.out)
        exact ret_cell4 2 3 4 259 rfl q1 259 _ _ hBB rfl Tryz.underlying259 rfl (by kernel_rfl) rfl ⟨c, ss, d, rfl, hFR⟩
      | some l =>
        rintro e w7 ⟨A, cap, rfl, hown7, hF7⟩
        have HF7 := Lib.hid (hF6.trans hF7)
        have HQ1 := Lib.hid (hF7.blk hQ6 (by simp))
        have HOWN := Lib.hid (rown_base hown7 (Nat.zero_le _))
        have hD7 := hF7.blk hD6 (by simp)
        have y0 := hD7.c 0 _ rfl
        have y1 := hD7.c 1 _ rfl
        have y2 := hD7.c 2 _ rfl
        have z0 := HQ1.out.c 0 _ rfl
        have z1 := HQ1.out.c 1 _ rfl
        have z2 := HQ1.out.c 2 _ rfl
        have f0 := HQ1.out.fz 0
        have f1 := HQ1.out.fz 1
        have f2 := HQ1.out.fz 2
        clear hF6 hD6 hQ6 hF7 hD7 TT hown7
        go_wp2_with fail
        have hBB := (((HQ1.out).set 0 (.int .i64 c)).set 1 (.int .i64 ss)).set 2 (.string (B d))
        have hFF := (((Fr.refl [q1] w7).setCell (p := ⟨q1, 0, none⟩) (by simp) (.int .i64 c)).setCell (p := ⟨q1, 1, none⟩) (by simp) (.int .i64 ss)).setCell (p := ⟨q1, 2, none⟩) (by simp) (.string (B d))
        simp only [List.setIfInBounds_toArray, List.set_cons_zero, List.set_cons_succ] at hBB
        have hFR := HF7.out.sub hFF (fun x hx => by simp at hx; subst hx; exact Or.inr HQS.out)
        exact ret_cell4 2 3 4 259 rfl q1 259 _ _ hBB rfl Tryz.underlying259 rfl (by kernel_rfl) rfl ⟨d, A, cap, rfl, rown_off HOWN.out hFF (fun q hq cur U hcc e => by simp at hq; subst hq; exact hcc.neT HQ1.out (by rw [e]; decide) rfl), hFR⟩
  · have t1 : (ty != 34915) = true := by simpa using hty
    have HRG : Hid (readG (⟨k1, k2, k3, k4, k5, k6⟩, ⟨s1, s2, s3, s4, s5, s6⟩, ty, d0) = none) := Lib.hid (by unfold readG; rw [if_neg hty])
    rw [HRG.out]
    clear hty HRG
    go_enter Tryz.func208, Tryz.ntmps208
    go_wp2_with fail
    exact ret_cell4 2 3 4 259 rfl (w.heap.size + 1) 259 _ _ hQ0 rfl Tryz.underlying259 rfl (by kernel_rfl) rfl ⟨0, 0, [], rfl, hF0⟩
end
end Go.Proofs.YtfchbppfbepelaaGreat
