/- Frames and datagrams put. -/
import Derived.Test.YtmdgilhjiooalaaAlive1
import Derived.Deep.RegionHeld3
namespace Go.Proofs.Ytmdgilhjiooalaa
open Go.RowKit
set_option linter.unusedVariables false

theorem two_w (v : Int) (w : World) (h0 : 0 ≤ v) (h1 : v ≤ 65535) :
    Calls Try.prog 51 #[.int .i64 v] w fun e w' => e = .returned (.string (B (be 2 v))) ∧ Fr [] w w' := by
  go_enter Try.func51, Try.ntmps51
  go_wp2_with fail
  refine (put_2 v _ h0 (by omega)).mono ?_
  rintro e w1 ⟨rfl, hF⟩
  go_wp2
  go_ret
  exact ⟨rfl, hF⟩
theorem num_w (l : List UInt8) (k : Nat) (w : World) (hk : k + 2 ≤ l.length) (hl : l.length ≤ 1000000) :
    Calls Try.prog 52 #[.string (B l), .int .i64 k] w fun e w' => e = .returned (.int .i64 (getV l k 2)) ∧ w = w' := by
  go_enter Try.func52, Try.ntmps52
  go_wp2_with fail
  refine (get_2 l k _ hk (by omega)).mono ?_
  rintro e w1 ⟨rfl, rfl⟩
  go_wp2
  go_ret
  exact ⟨rfl, rfl⟩
theorem num_r (l : List UInt8) (k : Nat) (w : World) (hk : k + 2 ≤ l.length) (hl : l.length ≤ 1000000) :
    Calls Try.prog 54 #[.string (B l), .int .i64 k] w fun e w' => e = .returned (.int .i64 (getV l k 2)) ∧ ∃ n, w' = w.drewN n := by
  have g0 := getD_at l (k + 0) (by omega)
  have g1 := getD_at l (k + 1) (by omega)
  have b0 := byte_bd (l[k + 0]'(by omega))
  have b1 := byte_bd (l[k + 1]'(by omega))
  have e1 : wrap64 (l[k].toNat : Int) = (l[k].toNat : Int) := wrap_byte _
  have e2 : wrap64 (l[k + 1].toNat : Int) = (l[k + 1].toNat : Int) := wrap_byte _
  have e3 : wrap64 ((l[k].toNat : Int) * 256) = (l[k].toNat : Int) * 256 := IntWalk.wrap64_in _ (by simp only [Nat.add_zero] at b0; omega)
  have e4 : wrap64 ((l[k].toNat : Int) * 256 + (l[k + 1].toNat : Int)) = (l[k].toNat : Int) * 256 + (l[k + 1].toNat : Int) := IntWalk.wrap64_in _ (by simp only [Nat.add_zero] at b0; omega)
  have ev : getV l k 2 = (l[k].toNat : Int) * 256 + (l[k + 1].toNat : Int) := by rw [getV, getV, getV, g0, g1]; simp
  have Ev := Lib.hid ev
  have i0 : (k : Int) < (l.length : Int) := by omega
  have i1 : (k : Int) + 1 < (l.length : Int) := by omega
  have i2 : (0 : Int) ≤ (k : Int) + 1 := by omega
  have hw : IntKind.i64.wrap ((k : Int) + 1) = (k : Int) + 1 := IntWalk.i64_in _ (by omega)
  clear g0 g1 b0 b1 ev
  go_enter Try.func54, Try.ntmps54
  go_wp2
  go_quiet (fail)
  go_wp2
  go_ret
  refine ⟨rint ?_, _, rfl⟩
  rw [Ev.out]
  exact e4

theorem sl6 (g k : Nat) (w : World) :
    (Instr.sliceAt 41 (.pointer (some ⟨g, k, none⟩)) none none none).run Try.prog w = .ok (.slice (some ⟨g, k, none⟩) 6 6) w := by
  have ha : Try.prog.arrayLen 41 = 6 := by kernel_rfl
  have hs : (sizeOf (Try.prog.elem 41)).run Try.prog w = .ok 1 w := by kernel_rfl
  rw [run_sliceAt_array_all w 41 ⟨g, k, none⟩ Try.underlying41, hs, ha]
  rfl
theorem macStr {w : World} {g T : Nat} {C : Array Value} (hB : Blk w g C T) (k : Nat) (xs : List Int) (hl : xs.length = 6) (hC : (C.toList.drop k).take 6 = xs.map (Value.int .u8)) :
    (convert 35 9 (.slice (some ⟨g, k, none⟩) 6 6)).run Try.prog w = .ok (.string (B (bytesOf xs))) w := by
  rw [run_convert_bytes_arg (P := Try.prog) w 35 5 Try.underlying35 Try.underlying5 g k 6 6 xs hl (fun i hi => by
    refine hB.c (k + i) _ ?_
    have h := congrArg (fun l => l[i]?) hC
    simp only [List.getElem?_take, if_pos hi, List.getElem?_drop, List.getElem?_map, List.getElem?_eq_getElem (show i < xs.length by omega), Option.map_some, Array.getElem?_toList] at h
    rw [h]; simp [List.getD, List.getElem?_eq_getElem (show i < xs.length by omega)]) 9 Try.underlying9, strOfNums_eq]
def ethV (xs ys : List Int) (t : Int) (d : List UInt8) : Value := .agg (((xs ++ ys).map (Value.int .u8)).toArray ++ #[.int .i64 t, .string (B d)])

theorem putether_ok (x0 x1 x2 x3 x4 x5 y0 y1 y2 y3 y4 y5 t : Int) (d : List UInt8) (w : World) (t0 : 0 ≤ t) (t1 : t ≤ 65535) (hd : d.length ≤ 1500) :
    Calls Try.prog 33 #[.agg #[.int .u8 x0, .int .u8 x1, .int .u8 x2, .int .u8 x3, .int .u8 x4, .int .u8 x5, .int .u8 y0, .int .u8 y1, .int .u8 y2, .int .u8 y3, .int .u8 y4, .int .u8 y5, .int .i64 t, .string (B d)]] w
      fun e w' => e = .returned (.tuple #[.string (B (bytesOf [x0, x1, x2, x3, x4, x5] ++ (bytesOf [y0, y1, y2, y3, y4, y5] ++ (be 2 t ++ d)))), .int .i64 0]) ∧ Fr [] w w' := by
  have hi : inB t 0 65535 = true := by simp [inB]; omega
  have hd' : ¬ (1500 : Int) < d.length := by omega
  go_enter Try.func33, Try.ntmps33
  go_wp2_with fail
  refine (in_any _ _ _ _).mono ?_
  rintro e w1 ⟨rfl, rfl⟩
  go_wp2_with fail
  obtain ⟨C, hC⟩ : ∃ C : Array Value, C = #[.int .u8 x0, .int .u8 x1, .int .u8 x2, .int .u8 x3, .int .u8 x4, .int .u8 x5, .int .u8 y0, .int .u8 y1, .int .u8 y2, .int .u8 y3, .int .u8 y4, .int .u8 y5, .int .i64 t, .string (B d)] := ⟨_, rfl⟩
  rw [← hC]
  obtain ⟨W, hW⟩ : ∃ W, w.alloc (.cells C 43) = W := ⟨_, rfl⟩
  have hB : Blk W w.heap.size C 43 := by rw [← hW]; exact Blk.new _ _ _
  have hF : Fr [] w W := by rw [← hW]; exact (Fr.refl _ _).alloc _
  rw [hW]
  clear hW
  have c12 := hB.c 12 (.int .i64 t) (by rw [hC]; rfl)
  have c13 := hB.c 13 (.string (B d)) (by rw [hC]; rfl)
  have hs0 := fun w' => sl6 w.heap.size 0 w'
  have hs6 := fun w' => sl6 w.heap.size 6 w'
  have hv0 : ∀ w', Blk w' w.heap.size C 43 → (convert 35 9 (.slice (some ⟨w.heap.size, 0, none⟩) 6 6)).run Try.prog w' = .ok (.string (B (bytesOf [x0, x1, x2, x3, x4, x5]))) w' := fun w' h => macStr h 0 [x0, x1, x2, x3, x4, x5] rfl (by rw [hC]; rfl)
  have hv6 : ∀ w', Blk w' w.heap.size C 43 → (convert 35 9 (.slice (some ⟨w.heap.size, 6, none⟩) 6 6)).run Try.prog w' = .ok (.string (B (bytesOf [y0, y1, y2, y3, y4, y5]))) w' := fun w' h => macStr h 6 [y0, y1, y2, y3, y4, y5] rfl (by rw [hC]; rfl)
  have HC := Lib.hid hC
  have l0 : (bytesOf [x0, x1, x2, x3, x4, x5]).length = 6 := rfl
  have l6 : (bytesOf [y0, y1, y2, y3, y4, y5]).length = 6 := rfl
  have l2 := be_length 2 t
  have hq : ¬ 9223372036854775807 < 14 + d.length := by omega
  clear hC
  go_region_held3 (fun w' => Blk w' w.heap.size C 43 ∧ w'.cell? ⟨w.heap.size, 12, none⟩ = some (.int .i64 t) ∧ w'.cell? ⟨w.heap.size, 13, none⟩ = some (.string (B d))) (first | exact ⟨hB.drew, c12, c13⟩ | exact ⟨hB3, d12, d13⟩) (first | (go_at_call 51; refine (two_w t _ t0 t1).mono ?_; rintro e w3 ⟨rfl, hF3⟩; have hB3 := hF3.blk hB.drew (by simp); have d12 := hB3.c 12 (.int .i64 t) (by rw [HC.out]; rfl); have d13 := hB3.c 13 (.string (B d)) (by rw [HC.out]; rfl)))
  go_wp2
  go_ret2
  exact ⟨rfl, hF.drew.trans hF3⟩

theorem rputether_ok (x0 x1 x2 x3 x4 x5 y0 y1 y2 y3 y4 y5 t : Int) (d : List UInt8) (w : World) (t0 : 0 ≤ t) (t1 : t ≤ 65535) (hd : d.length ≤ 1500) :
    Calls Try.prog 37 #[.agg #[.int .u8 x0, .int .u8 x1, .int .u8 x2, .int .u8 x3, .int .u8 x4, .int .u8 x5, .int .u8 y0, .int .u8 y1, .int .u8 y2, .int .u8 y3, .int .u8 y4, .int .u8 y5, .int .i64 t, .string (B d)]] w
      fun e w' => e = .returned (.tuple #[.string (B (bytesOf [x0, x1, x2, x3, x4, x5] ++ (bytesOf [y0, y1, y2, y3, y4, y5] ++ (be 2 t ++ d)))), .int .i64 0]) ∧ Fr [] w w' := by
  have hi : inB t 0 65535 = true := by simp [inB]; omega
  have hd' : ¬ (1500 : Int) < d.length := by omega
  go_enter Try.func37, Try.ntmps37
  go_wp2_with fail
  obtain ⟨C, hC⟩ : ∃ C : Array Value, C = #[.int .u8 x0, .int .u8 x1, .int .u8 x2, .int .u8 x3, .int .u8 x4, .int .u8 x5, .int .u8 y0, .int .u8 y1, .int .u8 y2, .int .u8 y3, .int .u8 y4, .int .u8 y5, .int .i64 t, .string (B d)] := ⟨_, rfl⟩
  rw [← hC]
  obtain ⟨W, hW⟩ : ∃ W, w.alloc (.cells C 43) = W := ⟨_, rfl⟩
  have hB : Blk W w.heap.size C 43 := by rw [← hW]; exact Blk.new _ _ _
  have hF : Fr [] w W := by rw [← hW]; exact (Fr.refl _ _).alloc _
  rw [hW]
  clear hW
  have c12 := hB.c 12 (.int .i64 t) (by rw [hC]; rfl)
  have c13 := hB.c 13 (.string (B d)) (by rw [hC]; rfl)
  have hs0 := fun w' => sl6 w.heap.size 0 w'
  have hs6 := fun w' => sl6 w.heap.size 6 w'
  have hv0 : ∀ w', Blk w' w.heap.size C 43 → (convert 35 9 (.slice (some ⟨w.heap.size, 0, none⟩) 6 6)).run Try.prog w' = .ok (.string (B (bytesOf [x0, x1, x2, x3, x4, x5]))) w' := fun w' h => macStr h 0 [x0, x1, x2, x3, x4, x5] rfl (by rw [hC]; rfl)
  have hv6 : ∀ w', Blk w' w.heap.size C 43 → (convert 35 9 (.slice (some ⟨w.heap.size, 6, none⟩) 6 6)).run Try.prog w' = .ok (.string (B (bytesOf [y0, y1, y2, y3, y4, y5]))) w' := fun w' h => macStr h 6 [y0, y1, y2, y3, y4, y5] rfl (by rw [hC]; rfl)
  have HC := Lib.hid hC
  have l0 : (bytesOf [x0, x1, x2, x3, x4, x5]).length = 6 := rfl
  have l6 : (bytesOf [y0, y1, y2, y3, y4, y5]).length = 6 := rfl
  have l2 := be_length 2 t
  have hq : ¬ 9223372036854775807 < 14 + d.length := by omega
  clear hC
  go_region_held3 (fun w' => Blk w' w.heap.size C 43 ∧ w'.cell? ⟨w.heap.size, 12, none⟩ = some (.int .i64 t) ∧ w'.cell? ⟨w.heap.size, 13, none⟩ = some (.string (B d))) (first | exact ⟨hB.drew, c12, c13⟩ | exact ⟨hB3, d12, d13⟩) (first | (go_at_call 53; refine (two_any t _ ⟨by omega, by omega⟩).mono ?_; rintro e w3 ⟨rfl, hF3⟩; have hB3 := hF3.blk hB.drew (by simp); have d12 := hB3.c 12 (.int .i64 t) (by rw [HC.out]; rfl); have d13 := hB3.c 13 (.string (B d)) (by rw [HC.out]; rfl)))
  go_wp2
  go_ret2
  exact ⟨rfl, hF.drew.trans hF3⟩

def ethE (t : Int) (d : List UInt8) : Int := if t < 0 ∨ 65535 < t then 1 else if 1500 < d.length then 2 else 0
def ethL (xs ys : List Int) (t : Int) (d : List UInt8) : List UInt8 := if ethE t d = 0 then bytesOf xs ++ (bytesOf ys ++ (be 2 t ++ d)) else []

theorem putether_any (x0 x1 x2 x3 x4 x5 y0 y1 y2 y3 y4 y5 t : Int) (d : List UInt8) (w : World) (hd : d.length ≤ 140737488351232) :
    Calls Try.prog 33 #[.agg #[.int .u8 x0, .int .u8 x1, .int .u8 x2, .int .u8 x3, .int .u8 x4, .int .u8 x5, .int .u8 y0, .int .u8 y1, .int .u8 y2, .int .u8 y3, .int .u8 y4, .int .u8 y5, .int .i64 t, .string (B d)]] w
      fun e w' => e = .returned (.tuple #[.string (B (ethL [x0, x1, x2, x3, x4, x5] [y0, y1, y2, y3, y4, y5] t d)), .int .i64 (ethE t d)]) ∧ Fr [] w w' := by
  by_cases h1 : t < 0 ∨ 65535 < t
  · have e : ethE t d = 1 := by unfold ethE; rw [if_pos h1]
    have e' : ethL [x0, x1, x2, x3, x4, x5] [y0, y1, y2, y3, y4, y5] t d = [] := by unfold ethL; rw [e]; rfl
    have hi : inB t 0 65535 = false := by simp [inB]; omega
    rw [e, e']; clear e e'
    by_cases h2 : t < 0
    · clear h1
      go_enter Try.func33, Try.ntmps33
      go_wp2_with fail
      refine (in_any _ _ _ _).mono ?_
      rintro e w1 ⟨rfl, rfl⟩
      go_wp2
      go_ret2
      exact ⟨rfl, (Fr.refl _ _).alloc _⟩
    · have h3 : 65535 < t := by omega
      clear h1
      go_enter Try.func33, Try.ntmps33
      go_wp2_with fail
      refine (in_any _ _ _ _).mono ?_
      rintro e w1 ⟨rfl, rfl⟩
      go_wp2
      go_ret2
      exact ⟨rfl, (Fr.refl _ _).alloc _⟩
  · have hi : inB t 0 65535 = true := by simp [inB]; omega
    by_cases h2 : 1500 < d.length
    · have e : ethE t d = 2 := by unfold ethE; rw [if_neg h1, if_pos h2]
      have e' : ethL [x0, x1, x2, x3, x4, x5] [y0, y1, y2, y3, y4, y5] t d = [] := by unfold ethL; rw [e]; rfl
      have h2' : (1500 : Int) < d.length := by omega
      have t0 : 0 ≤ t := by omega
      have t1 : t ≤ 65535 := by omega
      rw [e, e']; clear e e' h1 h2
      go_enter Try.func33, Try.ntmps33
      go_wp2_with fail
      refine (in_any _ _ _ _).mono ?_
      rintro e w1 ⟨rfl, rfl⟩
      go_wp2
      go_ret2
      exact ⟨rfl, (Fr.refl _ _).alloc _⟩
    · have e : ethE t d = 0 := by unfold ethE; rw [if_neg h1, if_neg h2]
      have e' : ethL [x0, x1, x2, x3, x4, x5] [y0, y1, y2, y3, y4, y5] t d = bytesOf [x0, x1, x2, x3, x4, x5] ++ (bytesOf [y0, y1, y2, y3, y4, y5] ++ (be 2 t ++ d)) := by unfold ethL; rw [if_pos e]
      rw [e, e']
      exact putether_ok x0 x1 x2 x3 x4 x5 y0 y1 y2 y3 y4 y5 t d w (by omega) (by omega) (by omega)

theorem rputether_any (x0 x1 x2 x3 x4 x5 y0 y1 y2 y3 y4 y5 t : Int) (d : List UInt8) (w : World) (hd : d.length ≤ 140737488351232) :
    Calls Try.prog 37 #[.agg #[.int .u8 x0, .int .u8 x1, .int .u8 x2, .int .u8 x3, .int .u8 x4, .int .u8 x5, .int .u8 y0, .int .u8 y1, .int .u8 y2, .int .u8 y3, .int .u8 y4, .int .u8 y5, .int .i64 t, .string (B d)]] w
      fun e w' => e = .returned (.tuple #[.string (B (ethL [x0, x1, x2, x3, x4, x5] [y0, y1, y2, y3, y4, y5] t d)), .int .i64 (ethE t d)]) ∧ Fr [] w w' := by
  by_cases h1 : t < 0 ∨ 65535 < t
  · have e : ethE t d = 1 := by unfold ethE; rw [if_pos h1]
    have e' : ethL [x0, x1, x2, x3, x4, x5] [y0, y1, y2, y3, y4, y5] t d = [] := by unfold ethL; rw [e]; rfl
    have hi : inB t 0 65535 = false := by simp [inB]; omega
    rw [e, e']; clear e e'
    by_cases h2 : t < 0
    · clear h1
      go_enter Try.func37, Try.ntmps37
      go_wp2
      go_ret2
      exact ⟨rfl, (Fr.refl _ _).alloc _⟩
    · have h3 : 65535 < t := by omega
      clear h1
      go_enter Try.func37, Try.ntmps37
      go_wp2
      go_ret2
      exact ⟨rfl, (Fr.refl _ _).alloc _⟩
  · have hi : inB t 0 65535 = true := by simp [inB]; omega
    by_cases h2 : 1500 < d.length
    · have e : ethE t d = 2 := by unfold ethE; rw [if_neg h1, if_pos h2]
      have e' : ethL [x0, x1, x2, x3, x4, x5] [y0, y1, y2, y3, y4, y5] t d = [] := by unfold ethL; rw [e]; rfl
      have h2' : (1500 : Int) < d.length := by omega
      have t0 : 0 ≤ t := by omega
      have t1 : t ≤ 65535 := by omega
      rw [e, e']; clear e e' h1 h2
      go_enter Try.func37, Try.ntmps37
      go_wp2
      go_ret2
      exact ⟨rfl, (Fr.refl _ _).alloc _⟩
    · have e : ethE t d = 0 := by unfold ethE; rw [if_neg h1, if_neg h2]
      have e' : ethL [x0, x1, x2, x3, x4, x5] [y0, y1, y2, y3, y4, y5] t d = bytesOf [x0, x1, x2, x3, x4, x5] ++ (bytesOf [y0, y1, y2, y3, y4, y5] ++ (be 2 t ++ d)) := by unfold ethL; rw [if_pos e]
      rw [e, e']
      exact rputether_ok x0 x1 x2 x3 x4 x5 y0 y1 y2 y3 y4 y5 t d w (by omega) (by omega) (by omega)

def ppE (p : Int) (d : List UInt8) : Int := if isP p = false then 1 else if 1492 < d.length then 2 else 0
def ppL (p : Int) (d : List UInt8) : List UInt8 := if ppE p d = 0 then be 2 p ++ d else []

theorem putppp_any (p : Int) (d : List UInt8) (w : World) (hd : d.length ≤ 140737488351232) :
    Calls Try.prog 39 #[.int .i64 p, .string (B d)] w fun e w' => e = .returned (.tuple #[.string (B (ppL p d)), .int .i64 (ppE p d)]) ∧ Fr [] w w' := by
  cases hp : isP p with
  | false =>
    have e : ppE p d = 1 := by unfold ppE; rw [if_pos hp]
    have e' : ppL p d = [] := by unfold ppL; rw [e]; rfl
    rw [e, e']; clear e e'
    go_enter Try.func39, Try.ntmps39
    go_wp2_with fail
    refine (isProto_any _ _).mono ?_
    rw [hp]
    rintro e w1 ⟨rfl, rfl⟩
    go_wp2
    go_ret2
    exact ⟨rfl, Fr.refl _ _⟩
  | true =>
    have hp' : 0 ≤ p ∧ p ≤ 65535 := by simp only [isP, decide_eq_true_eq] at hp; omega
    by_cases h2 : 1492 < d.length
    · have e : ppE p d = 2 := by unfold ppE; rw [hp, if_neg (by simp), if_pos h2]
      have e' : ppL p d = [] := by unfold ppL; rw [e]; rfl
      have h2' : (1492 : Int) < d.length := by omega
      rw [e, e']; clear e e' h2
      go_enter Try.func39, Try.ntmps39
      go_wp2_with fail
      refine (isProto_any _ _).mono ?_
      rw [hp]
      rintro e w1 ⟨rfl, rfl⟩
      go_wp2
      go_ret2
      exact ⟨rfl, Fr.refl _ _⟩
    · have e : ppE p d = 0 := by unfold ppE; rw [hp, if_neg (by simp), if_neg h2]
      have e' : ppL p d = be 2 p ++ d := by unfold ppL; rw [if_pos e]
      have h2' : ¬ (1492 : Int) < d.length := by omega
      have l2 := be_length 2 p
      rw [e, e']; clear e e' h2
      go_enter Try.func39, Try.ntmps39
      go_wp2_with fail
      refine (isProto_any _ _).mono ?_
      rw [hp]
      rintro e w1 ⟨rfl, rfl⟩
      go_wp2_with fail
      refine (two_w p _ hp'.1 hp'.2).mono ?_
      rintro e w2 ⟨rfl, hF⟩
      go_wp2
      go_ret2
      exact ⟨rfl, hF⟩

theorem rputppp_any (p : Int) (d : List UInt8) (w : World) (hd : d.length ≤ 140737488351232) :
    Calls Try.prog 40 #[.int .i64 p, .string (B d)] w fun e w' => e = .returned (.tuple #[.string (B (ppL p d)), .int .i64 (ppE p d)]) ∧ Fr [] w w' := by
  by_cases hr : p < 0 ∨ 65535 < p
  · have hp : isP p = false := by simp only [isP, decide_eq_false_iff_not]; omega
    have e : ppE p d = 1 := by unfold ppE; rw [if_pos hp]
    have e' : ppL p d = [] := by unfold ppL; rw [e]; rfl
    rw [e, e']; clear e e' hp
    by_cases h0 : p < 0
    · clear hr
      go_enter Try.func40, Try.ntmps40
      go_wp2
      go_ret2
      exact ⟨rfl, Fr.refl _ _⟩
    · have h1 : 65535 < p := by omega
      clear hr
      go_enter Try.func40, Try.ntmps40
      go_wp2
      go_ret2
      exact ⟨rfl, Fr.refl _ _⟩
  · have p0 : 0 ≤ p := by omega
    have p1 : p ≤ 65535 := by omega
    by_cases hev : p % 2 = 0
    · have hp : isP p = false := by simp only [isP, decide_eq_false_iff_not]; omega
      have e : ppE p d = 1 := by unfold ppE; rw [if_pos hp]
      have e' : ppL p d = [] := by unfold ppL; rw [e]; rfl
      have hb : (p % 2 == 0) = true := by rw [beq_iff_eq]; exact hev
      rw [e, e']; clear e e' hp hr hev
      go_enter Try.func40, Try.ntmps40
      go_wp2
      go_ret2
      exact ⟨rfl, Fr.refl _ _⟩
    · have hb : (p % 2 == 0) = false := by rw [beq_eq_false_iff_ne]; exact hev
      by_cases hod : p / 256 % 2 = 1
      · have hp : isP p = false := by simp only [isP, decide_eq_false_iff_not]; omega
        have e : ppE p d = 1 := by unfold ppE; rw [if_pos hp]
        have e' : ppL p d = [] := by unfold ppL; rw [e]; rfl
        have hc : (p / 256 % 2 == 1) = true := by rw [beq_iff_eq]; exact hod
        rw [e, e']; clear e e' hp hr hev hod
        go_enter Try.func40, Try.ntmps40
        go_wp2
        go_ret2
        exact ⟨rfl, Fr.refl _ _⟩
      · have hp : isP p = true := by simp only [isP, decide_eq_true_eq]; omega
        have hc : (p / 256 % 2 == 1) = false := by rw [beq_eq_false_iff_ne]; exact hod
        by_cases h2 : 1492 < d.length
        · have e : ppE p d = 2 := by unfold ppE; rw [hp, if_neg (by simp), if_pos h2]
          have e' : ppL p d = [] := by unfold ppL; rw [e]; rfl
          have h2' : (1492 : Int) < d.length := by omega
          rw [e, e']; clear e e' h2 hp hr hev hod
          go_enter Try.func40, Try.ntmps40
          go_wp2
          go_ret2
          exact ⟨rfl, Fr.refl _ _⟩
        · have e : ppE p d = 0 := by unfold ppE; rw [hp, if_neg (by simp), if_neg h2]
          have e' : ppL p d = be 2 p ++ d := by unfold ppL; rw [if_pos e]
          have h2' : ¬ (1492 : Int) < d.length := by omega
          have l2 := be_length 2 p
          rw [e, e']; clear e e' h2 hp hr hev hod
          go_enter Try.func40, Try.ntmps40
          go_wp2_with fail
          refine (two_any p _ ⟨by omega, by omega⟩).mono ?_
          rintro e w2 ⟨rfl, hF⟩
          go_wp2
          go_ret2
          exact ⟨rfl, hF⟩
end Go.Proofs.Ytmdgilhjiooalaa
