/- chap: values and names put and got: the program's and the document's. -/
import Derived.Test.YtfchbppfbepelaaGreatClone
import Derived.Test.YtfchbppfbepelaaGreatOwn
import Derived.Test.YtfchbppfbepelaaGreatLowB
import Derived.IntWalk
import Derived.Deep.RegionHeld3
namespace Go.Proofs.YtfchbppfbepelaaGreat
open Go.RowKit
set_option linter.unusedVariables false

theorem ret_pair (a b c d : Value) (h1 : a = c) (h2 : b = d) : Ending.returned (.tuple #[a, b]) = .returned (.tuple #[c, d]) := by rw [h1, h2]
theorem ret_tri (a b c a' b' c' : Value) (h1 : a = a') (h2 : b = b') (h3 : c = c') : Ending.returned (.tuple #[a, b, c]) = .returned (.tuple #[a', b', c']) := by rw [h1, h2, h3]
/-- a text behind its length -/
def one (l : List UInt8) : List UInt8 := bytesOf [(l.length : Int)] ++ l
theorem one_length (l : List UInt8) : (one l).length = l.length + 1 := by
  unfold one
  rw [List.length_append]
  show 1 + _ = _
  omega
theorem be1_small (l : List UInt8) (h : l.length ≤ 60) : be 1 (l.length : Int) = bytesOf [(l.length : Int)] := by
  have e : (l.length : Int) % 256 = l.length := by omega
  simp [be, bytesOf, e]
def pvE (v n : List UInt8) : Int := if v = [] ∨ 60 < v.length then 1 else if 60 < n.length then 2 else 0
def pvL (v n : List UInt8) : List UInt8 := if pvE v n = 0 then one v ++ n else []
def gvE : List UInt8 → Int
  | [] => 5
  | c :: r => if c.toNat < 1 ∨ 60 < c.toNat then 1 else if r.length < c.toNat then 5 else if 60 < r.length - c.toNat then 2 else 0
def gvV : List UInt8 → List UInt8
  | [] => []
  | c :: r => if gvE (c :: r) = 0 then r.take c.toNat else []
def gvN : List UInt8 → List UInt8
  | [] => []
  | c :: r => if gvE (c :: r) = 0 then r.drop c.toNat else []
theorem pvL_le (v n : List UInt8) : (pvL v n).length ≤ 121 := by
  unfold pvL pvE
  by_cases h1 : v = [] ∨ 60 < v.length
  · rw [if_pos h1]; simp
  · rw [if_neg h1]
    by_cases h2 : 60 < n.length
    · rw [if_pos h2]; simp
    · rw [if_neg h2, if_pos rfl, List.length_append, one_length]
      have : ¬ 60 < v.length := fun h => h1 (Or.inr h)
      omega
theorem gv_back (v n : List UInt8) (h : pvE v n = 0) : gvE (pvL v n) = 0 ∧ gvV (pvL v n) = v ∧ gvN (pvL v n) = n := by
  have h1 : ¬ (v = [] ∨ 60 < v.length) := fun hh => by unfold pvE at h; rw [if_pos hh] at h; exact absurd h (by decide)
  have h2 : ¬ 60 < n.length := fun hh => by unfold pvE at h; rw [if_neg h1, if_pos hh] at h; exact absurd h (by decide)
  have hv0 : v ≠ [] := fun e => h1 (Or.inl e)
  have hv1 : ¬ 60 < v.length := fun e => h1 (Or.inr e)
  have hv2 : 0 < v.length := List.length_pos_iff.2 hv0
  have hc : (UInt8.ofNat ((v.length : Int)).toNat).toNat = v.length := by
    have : ((v.length : Int)).toNat = v.length := by omega
    rw [this]
    have e : (UInt8.ofNat v.length).toNat = v.length % 256 := by simp
    omega
  have e : pvL v n = UInt8.ofNat ((v.length : Int)).toNat :: (v ++ n) := by unfold pvL; rw [if_pos h]; simp [one, bytesOf]
  have g : gvE (UInt8.ofNat ((v.length : Int)).toNat :: (v ++ n)) = 0 := by
    simp only [gvE, hc, List.length_append]
    rw [if_neg (by omega), if_neg (by omega), if_neg (by omega)]
  rw [e]
  refine ⟨g, ?_, ?_⟩
  · simp only [gvV, g, if_true, hc]
    rw [List.take_append_of_le_length (Nat.le_refl _), List.take_length]
  · simp only [gvN, g, if_true, hc]
    rw [List.drop_append_of_le_length (Nat.le_refl _), List.drop_length, List.nil_append]

theorem putValue_ok (v n : List UInt8) (w : World) (h : pvE v n = 0) :
    Calls Tryz.prog 186 #[.string (B v), .string (B n)] w fun e w' => e = .returned (.tuple #[.string (B (pvL v n)), .int .i64 0]) ∧ Fr [] w w' := by
  have h1 : ¬ (v = [] ∨ 60 < v.length) := fun hh => by unfold pvE at h; rw [if_pos hh] at h; exact absurd h (by decide)
  have h2 : ¬ 60 < n.length := fun hh => by unfold pvE at h; rw [if_neg h1, if_pos hh] at h; exact absurd h (by decide)
  have hve : v.isEmpty = false := by cases v with | nil => exact absurd (Or.inl rfl) h1 | cons _ _ => rfl
  have hv1 : ¬ (60 : Int) < v.length := fun e => h1 (Or.inr (by omega))
  have hn1 : ¬ (60 : Int) < n.length := by omega
  have eL : pvL v n = bytesOf [(v.length : Int)] ++ (v ++ n) := by unfold pvL; rw [if_pos h]; unfold one; rw [List.append_assoc]
  rw [eL]
  have hcv : ∀ W : World, (convert 383 9 (.slice (some ⟨W.heap.size, 0, none⟩) 1 1)).run Tryz.prog (W.alloc (.cells #[.int .u8 (v.length : Int)] 5)) = .ok (.string (B (bytesOf [(v.length : Int)]))) (W.alloc (.cells #[.int .u8 (v.length : Int)] 5)) := fun W => run_str Tryz.underlying383 Tryz.underlying5 Tryz.underlying9 [(v.length : Int)] (Blk.new _ _ _) 1 rfl
  have hb1 : (bytesOf [(v.length : Int)]).length = 1 := rfl
  clear h h1 h2 eL
  go_enter Tryz.func186, Tryz.ntmps186
  go_wp2
  go_ret2
  exact ⟨rfl, (Fr.refl _ _).alloc _⟩
theorem putValue_bad (v n : List UInt8) (w : World) (hv : v.length ≤ 140737488355328) (hn : n.length ≤ 140737488355328) (h : pvE v n ≠ 0) :
    Calls Tryz.prog 186 #[.string (B v), .string (B n)] w fun e w' => e = .returned (.tuple #[.string (B []), .int .i64 (pvE v n)]) ∧ w = w' := by
  by_cases h1 : v = []
  · subst h1
    have e1 : pvE [] n = 1 := rfl
    rw [e1]
    clear h e1
    go_enter Tryz.func186, Tryz.ntmps186
    go_wp2
    go_ret2
    exact ⟨rfl, rfl⟩
  · have hve : v.isEmpty = false := by cases v with | nil => exact absurd rfl h1 | cons _ _ => rfl
    by_cases h2 : 60 < v.length
    · have e1 : pvE v n = 1 := by unfold pvE; rw [if_pos (Or.inr h2)]
      have h2' : (60 : Int) < v.length := by omega
      rw [e1]
      clear h e1 h1
      go_enter Tryz.func186, Tryz.ntmps186
      go_wp2
      go_ret2
      exact ⟨rfl, rfl⟩
    · have h3 : 60 < n.length := by
        unfold pvE at h
        rw [if_neg (fun hh => hh.elim h1 h2)] at h
        by_cases h3 : 60 < n.length
        · exact h3
        · rw [if_neg h3] at h; exact absurd rfl h
      have e1 : pvE v n = 2 := by unfold pvE; rw [if_neg (fun hh => hh.elim h1 h2), if_pos h3]
      have h2' : ¬ (60 : Int) < v.length := by omega
      have h3' : (60 : Int) < n.length := by omega
      rw [e1]
      clear h e1 h1
      go_enter Tryz.func186, Tryz.ntmps186
      go_wp2
      go_ret2
      exact ⟨rfl, rfl⟩
theorem putValue_any (v n : List UInt8) (w : World) (hv : v.length ≤ 140737488355328) (hn : n.length ≤ 140737488355328) :
    Calls Tryz.prog 186 #[.string (B v), .string (B n)] w fun e w' => e = .returned (.tuple #[.string (B (pvL v n)), .int .i64 (pvE v n)]) ∧ Fr [] w w' := by
  by_cases h : pvE v n = 0
  · rw [h]; exact putValue_ok v n w h
  · have e1 : pvL v n = [] := by unfold pvL; rw [if_neg h]
    rw [e1]
    refine (putValue_bad v n w hv hn h).mono ?_
    rintro e w' ⟨rfl, rfl⟩
    exact ⟨rfl, Fr.refl _ _⟩

theorem getValue_bad (b : List UInt8) (w : World) (hb : b.length ≤ 140737488355328) (h : gvE b ≠ 0) :
    Calls Tryz.prog 185 #[.string (B b)] w fun e w' => e = .returned (.tuple #[.string (B []), .string (B []), .int .i64 (gvE b)]) ∧ w = w' := by
  cases b with
  | nil =>
    go_enter Tryz.func185, Tryz.ntmps185
    go_wp2
    go_ret3
    exact ⟨rfl, rfl⟩
  | cons c r =>
    have hcw : wrap64 (c.toNat : Int) = (c.toNat : Int) := by have := byte_bd c; unfold wrap64; omega
    have hb0 : r.length + 1 ≤ 140737488355328 := by simpa using hb
    by_cases h1 : c.toNat < 1
    · have e1 : gvE (c :: r) = 1 := by simp only [gvE]; rw [if_pos (Or.inl h1)]
      have h1' : (c.toNat : Int) < 1 := by omega
      rw [e1]
      clear h e1 h1
      go_enter Tryz.func185, Tryz.ntmps185
      go_wp2
      go_ret3
      exact ⟨rfl, rfl⟩
    · have h1' : ¬ (c.toNat : Int) < 1 := by omega
      by_cases h2 : 60 < c.toNat
      · have e1 : gvE (c :: r) = 1 := by simp only [gvE]; rw [if_pos (Or.inr h2)]
        have h2' : (60 : Int) < c.toNat := by omega
        rw [e1]
        clear h e1 h1 h2
        go_enter Tryz.func185, Tryz.ntmps185
        go_wp2
        go_ret3
        exact ⟨rfl, rfl⟩
      · have h2' : ¬ (60 : Int) < c.toNat := by omega
        by_cases h3 : r.length < c.toNat
        · have e1 : gvE (c :: r) = 5 := by simp only [gvE]; rw [if_neg (fun hh => hh.elim h1 h2), if_pos h3]
          have h3' : (r.length : Int) < c.toNat := by omega
          rw [e1]
          clear h e1 h1 h2 h3 hb
          go_enter Tryz.func185, Tryz.ntmps185
          go_wp2
          go_ret3
          exact ⟨rfl, rfl⟩
        · have h3' : ¬ (r.length : Int) < c.toNat := by omega
          have h4 : 60 < r.length - c.toNat := by
            simp only [gvE] at h
            rw [if_neg (fun hh => hh.elim h1 h2), if_neg h3] at h
            by_cases h4 : 60 < r.length - c.toNat
            · exact h4
            · rw [if_neg h4] at h; exact absurd rfl h
          have e1 : gvE (c :: r) = 2 := by simp only [gvE]; rw [if_neg (fun hh => hh.elim h1 h2), if_neg h3, if_pos h4]
          have h4' : (60 : Int) < (r.length : Int) - c.toNat := by omega
          rw [e1]
          clear h e1 h1 h2 h3 hb h4
          go_enter Tryz.func185, Tryz.ntmps185
          go_wp2
          go_ret3
          exact ⟨rfl, rfl⟩
end Go.Proofs.YtfchbppfbepelaaGreat
