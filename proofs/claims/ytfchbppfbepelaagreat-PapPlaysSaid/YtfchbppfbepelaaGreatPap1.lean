/- pap: texts put behind their lengths, and got: the program's. -/
import Derived.Test.YtfchbppfbepelaaGreatClone
import Derived.Test.YtfchbppfbepelaaGreatOwn
import Derived.Test.YtfchbppfbepelaaGreatLowB
namespace Go.Proofs.YtfchbppfbepelaaGreat
open Go.RowKit
set_option linter.unusedVariables false

theorem ret_pair (a b c d : Value) (h1 : a = c) (h2 : b = d) : Ending.returned (.tuple #[a, b]) = .returned (.tuple #[c, d]) := by rw [h1, h2]
def strs (xs : List (List UInt8)) : List Value := xs.map fun l => .string (B l)
/-- a text behind its length -/
def one (l : List UInt8) : List UInt8 := bytesOf [(l.length : Int)] ++ l
def putL : List (List UInt8) → List UInt8
  | [] => []
  | x :: r => one x ++ putL r
theorem putL_snoc (xs : List (List UInt8)) (x : List UInt8) : putL (xs ++ [x]) = putL xs ++ one x := by
  induction xs with
  | nil => simp [putL]
  | cons y r ih => rw [List.cons_append, putL, putL, ih, List.append_assoc]
theorem one_length (l : List UInt8) : (one l).length = l.length + 1 := by
  unfold one
  rw [List.length_append]
  show 1 + _ = _
  omega
theorem putL_le (xs : List (List UInt8)) (h : ∀ x, x ∈ xs → x.length ≤ 60) : (putL xs).length ≤ 61 * xs.length := by
  induction xs with
  | nil => simp [putL]
  | cons y r ih =>
    have h1 := h y (by simp)
    have h2 := ih (fun x hx => h x (by simp [hx]))
    rw [putL, List.length_append, one_length, List.length_cons]; omega
theorem strs_get (xs : List (List UInt8)) (k : Nat) (h : k < xs.length) : (strs xs).toArray[k]? = some (.string (B xs[k])) := by
  unfold strs
  simp [h]

set_option maxHeartbeats 1000000 in
theorem put_good (xs : List (List UInt8)) (b T : Nat) (w : World) (hn : xs.length ≤ 10) (hx : ∀ x, x ∈ xs → x.length ≤ 60) (hB : Blk w b (strs xs).toArray T) :
    Calls Tryz.prog 244 #[.slice (some ⟨b, 0, none⟩) xs.length xs.length] w fun e w' => e = .returned (.tuple #[.string (B (putL xs)), .int .i64 0]) ∧ Fr [] w w' := by
  have hlb := hB.lt
  go_enter Tryz.func244, Tryz.ntmps244
  go_wp2
  go_loopw [4, 9] (fun o i wr => ∃ k : Nat, k ≤ xs.length ∧ i = .int .i64 k ∧ o = .string (B (putL (xs.take k))) ∧ Blk wr b (strs xs).toArray T ∧ Fr [] w wr) (fun _ i _ => xs.length - (intOf i).toNat)
  case atStart => exact ⟨0, by omega, rfl, rfl, hB, Fr.refl _ _⟩
  case round =>
    obtain ⟨k, hk, rfl, rfl, hB, hF⟩ := hrel
    by_cases hlt : k < xs.length
    · have hc := hB.c k _ (strs_get xs k hlt)
      have hsn := putL_snoc (xs.take k) xs[k]
      rw [← List.take_succ_eq_append_getElem hlt] at hsn
      have hl := putL_le (xs.take k) (fun x hm => hx x (List.mem_of_mem_take hm))
      have hl2 : (xs.take k).length ≤ 10 := by have := List.length_take_le k xs; omega
      have hl3 : (putL (xs.take k)).length ≤ 610 := by omega
      have h60 := hx xs[k] (List.getElem_mem hlt)
      obtain ⟨x, hxk⟩ : ∃ x, xs[k] = x := ⟨_, rfl⟩
      obtain ⟨P, hP⟩ : ∃ P, putL (xs.take k) = P := ⟨_, rfl⟩
      rw [hxk] at hc hsn h60
      rw [hP] at hsn hl3
      rw [hP]
      have Hsn := Lib.hid hsn
      clear hxk hP hsn hl hl2 hx
      have h60' : ¬ (60 : Int) < x.length := by omega
      have hcv : ∀ W : World, (convert 383 9 (.slice (some ⟨W.heap.size, 0, none⟩) 1 1)).run Tryz.prog (W.alloc (.cells #[.int .u8 (x.length : Int)] 5)) = .ok (.string (B (bytesOf [(x.length : Int)]))) (W.alloc (.cells #[.int .u8 (x.length : Int)] 5)) := fun W => run_str Tryz.underlying383 Tryz.underlying5 Tryz.underlying9 [(x.length : Int)] (Blk.new _ _ _) 1 rfl
      have hb1 : (bytesOf [(x.length : Int)]).length = 1 := rfl
      go_wp2
      go_roundw
      case rel => exact ⟨k + 1, by omega, by go_num, by rw [Hsn.out]; rfl, hB.alloc _, hF.alloc _⟩
      case measure => (simp [intOf]) <;> omega
    · have : k = xs.length := by omega
      subst this
      rw [List.take_of_length_le (Nat.le_refl _)]
      have Hx := Lib.hid hx
      clear hx
      go_wp2
      go_ret2
      exact ⟨rfl, hF⟩

set_option maxHeartbeats 1000000 in
theorem put_bad (xs : List (List UInt8)) (b T : Nat) (w : World) (hn : xs.length ≤ 10) (hs : ∀ x, x ∈ xs → x.length ≤ 140737488355328) (j : Nat) (hj : j < xs.length) (hb : 60 < xs[j].length) (hx : ∀ x, x ∈ xs.take j → x.length ≤ 60) (hB : Blk w b (strs xs).toArray T) :
    Calls Tryz.prog 244 #[.slice (some ⟨b, 0, none⟩) xs.length xs.length] w fun e w' => e = .returned (.tuple #[.string (B []), .int .i64 2]) ∧ Fr [] w w' := by
  have hlb := hB.lt
  go_enter Tryz.func244, Tryz.ntmps244
  go_wp2
  go_loopw [4, 9] (fun o i wr => ∃ k : Nat, k ≤ j ∧ i = .int .i64 k ∧ o = .string (B (putL (xs.take k))) ∧ Blk wr b (strs xs).toArray T ∧ Fr [] w wr) (fun _ i _ => xs.length - (intOf i).toNat)
  case atStart => exact ⟨0, by omega, rfl, rfl, hB, Fr.refl _ _⟩
  case round =>
    obtain ⟨k, hk, rfl, rfl, hB, hF⟩ := hrel
    have hlt : k < xs.length := by omega
    have hc := hB.c k _ (strs_get xs k hlt)
    have hsx := hs xs[k] (List.getElem_mem hlt)
    by_cases hlj : k < j
    · have hsn := putL_snoc (xs.take k) xs[k]
      rw [← List.take_succ_eq_append_getElem hlt] at hsn
      have hl := putL_le (xs.take k) (fun x hm => hx x (by
        have : xs.take k = (xs.take j).take k := by rw [List.take_take, Nat.min_eq_left hk]
        rw [this] at hm; exact List.mem_of_mem_take hm))
      have hl2 : (xs.take k).length ≤ 10 := by have := List.length_take_le k xs; omega
      have hl3 : (putL (xs.take k)).length ≤ 610 := by omega
      have h60 := hx xs[k] (by
        have h1 : k < (xs.take j).length := by rw [List.length_take]; omega
        have h2 : (xs.take j)[k] = xs[k] := List.getElem_take
        rw [← h2]; exact List.getElem_mem h1)
      obtain ⟨x, hxk⟩ : ∃ x, xs[k] = x := ⟨_, rfl⟩
      obtain ⟨P, hP⟩ : ∃ P, putL (xs.take k) = P := ⟨_, rfl⟩
      rw [hxk] at hc hsn h60 hsx
      rw [hP] at hsn hl3
      rw [hP]
      have Hsn := Lib.hid hsn
      clear hxk hP hsn hl hl2 hx hs
      have h60' : ¬ (60 : Int) < x.length := by omega
      have hcv : ∀ W : World, (convert 383 9 (.slice (some ⟨W.heap.size, 0, none⟩) 1 1)).run Tryz.prog (W.alloc (.cells #[.int .u8 (x.length : Int)] 5)) = .ok (.string (B (bytesOf [(x.length : Int)]))) (W.alloc (.cells #[.int .u8 (x.length : Int)] 5)) := fun W => run_str Tryz.underlying383 Tryz.underlying5 Tryz.underlying9 [(x.length : Int)] (Blk.new _ _ _) 1 rfl
      have hb1 : (bytesOf [(x.length : Int)]).length = 1 := rfl
      go_wp2
      go_roundw
      case rel => exact ⟨k + 1, by omega, by go_num, by rw [Hsn.out]; rfl, hB.alloc _, hF.alloc _⟩
      case measure => (simp [intOf]) <;> omega
    · have : k = j := by omega
      subst this
      obtain ⟨x, hxk⟩ : ∃ x, xs[k] = x := ⟨_, rfl⟩
      rw [hxk] at hc hb hsx
      have Hx := Lib.hid hx
      clear hx hs hxk
      have h60' : (60 : Int) < x.length := by omega
      go_wp2
      go_ret2
      exact ⟨rfl, hF⟩

def reqE (n s : List UInt8) : Int := if n.length ≤ 60 ∧ s.length ≤ 60 then 0 else 2
def reqL (n s : List UInt8) : List UInt8 := if n.length ≤ 60 ∧ s.length ≤ 60 then one n ++ one s else []
theorem reqL_le (n s : List UInt8) : (reqL n s).length ≤ 122 := by
  unfold reqL
  split
  · rw [List.length_append, one_length, one_length]; omega
  · simp
theorem putReq_any (n s : List UInt8) (w : World) (hn : n.length ≤ 140737488355328) (hs : s.length ≤ 140737488355328) :
    Calls Tryz.prog 100 #[.string (B n), .string (B s)] w fun e w' => e = .returned (.tuple #[.string (B (reqL n s)), .int .i64 (reqE n s)]) ∧ Fr [] w w' := by
  go_enter Tryz.func100, Tryz.ntmps100
  by_cases h1 : n.length ≤ 60
  · by_cases h2 : s.length ≤ 60
    · have C := put_good [n, s] w.heap.size 9 (w.alloc (.cells (strs [n, s]).toArray 9)) (by simp) (by simp; omega) (Blk.new _ _ _)
      go_wp2_with fail
      refine C.mono ?_
      rintro e w1 ⟨rfl, hF⟩
      go_wp2
      go_ret2
      exact ⟨by simp [reqL, reqE, h1, h2, putL], ((Fr.refl _ _).alloc _).trans hF⟩
    · have C := put_bad [n, s] w.heap.size 9 (w.alloc (.cells (strs [n, s]).toArray 9)) (by simp) (by simp; omega) 1 (by simp) (by simp; omega) (by simp; omega) (Blk.new _ _ _)
      go_wp2_with fail
      refine C.mono ?_
      rintro e w1 ⟨rfl, hF⟩
      go_wp2
      go_ret2
      exact ⟨by simp [reqL, reqE, h1, h2], ((Fr.refl _ _).alloc _).trans hF⟩
  · have C := put_bad [n, s] w.heap.size 9 (w.alloc (.cells (strs [n, s]).toArray 9)) (by simp) (by simp; omega) 0 (by simp) (by simp; omega) (by simp) (Blk.new _ _ _)
    go_wp2_with fail
    refine C.mono ?_
    rintro e w1 ⟨rfl, hF⟩
    go_wp2
    go_ret2
    exact ⟨by simp [reqL, reqE, h1], ((Fr.refl _ _).alloc _).trans hF⟩
def sayE (s : List UInt8) : Int := if s.length ≤ 60 then 0 else 2
def sayL (s : List UInt8) : List UInt8 := if s.length ≤ 60 then one s else []
theorem putSay_any (s : List UInt8) (w : World) (hs : s.length ≤ 140737488355328) :
    Calls Tryz.prog 110 #[.string (B s)] w fun e w' => e = .returned (.tuple #[.string (B (sayL s)), .int .i64 (sayE s)]) ∧ Fr [] w w' := by
  go_enter Tryz.func110, Tryz.ntmps110
  by_cases h2 : s.length ≤ 60
  · have C := put_good [s] w.heap.size 9 (w.alloc (.cells (strs [s]).toArray 9)) (by simp) (by simp; omega) (Blk.new _ _ _)
    go_wp2_with fail
    refine C.mono ?_
    rintro e w1 ⟨rfl, hF⟩
    go_wp2
    go_ret2
    exact ⟨by simp [sayL, sayE, h2, putL], ((Fr.refl _ _).alloc _).trans hF⟩
  · have C := put_bad [s] w.heap.size 9 (w.alloc (.cells (strs [s]).toArray 9)) (by simp) (by simp; omega) 0 (by simp) (by simp; omega) (by simp) (Blk.new _ _ _)
    go_wp2_with fail
    refine C.mono ?_
    rintro e w1 ⟨rfl, hF⟩
    go_wp2
    go_ret2
    exact ⟨by simp [sayL, sayE, h2], ((Fr.refl _ _).alloc _).trans hF⟩
end Go.Proofs.YtfchbppfbepelaaGreat
