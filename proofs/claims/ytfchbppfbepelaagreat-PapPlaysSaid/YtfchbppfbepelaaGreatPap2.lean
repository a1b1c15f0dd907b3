/- pap.get, GetReq, GetSay: the program's. -/
import Derived.Test.YtfchbppfbepelaaGreatPap1
import Derived.RegionTactic
import Derived.ChangeAlike
namespace Go.Proofs.YtfchbppfbepelaaGreat
open Go.RowKit
set_option linter.unusedVariables false

/-- an owned row stays through a call that leaves the old blocks alone -/
theorem own_fr {w w' : World} {base : Nat} {e : TypeId} {size n : Nat} {v : Value} {xs : List Value} {S : List Nat} (h : w.ownsRow base e size v n xs) (hF : Fr S w w') (hn : ∀ k, v.ownBlock = some k → k ∉ S) : w'.ownsRow base e size v n xs := by
  refine ⟨h.1, ?_⟩
  rcases h.2 with ⟨rfl, rfl⟩ | ⟨g, cap, cur, rfl, h1, h2, h3⟩
  · exact Or.inl ⟨rfl, rfl⟩
  · refine Or.inr ⟨g, cap, cur, rfl, h1, ?_, h3⟩
    have hlt : g < w.heap.size := by
      rcases Nat.lt_or_ge g w.heap.size with h | h
      · exact h
      · rw [Array.getElem?_eq_none h] at h2; cases h2
    rw [hF.block g hlt (hn g rfl)]; exact h2

theorem infoStr : (Tryz.prog.info? 9).map (fun i => (i.zero, i.size, i.bytes)) = some (some (.string ByteArray.empty), 1, 16) := by kernel_rfl

/-- what is wrong at the head of the bytes, its text, what is left -/
def pE : List UInt8 → Int
  | [] => 5
  | c :: r => if 60 < c.toNat then 2 else if r.length < c.toNat then 5 else 0
def pN : List UInt8 → Nat
  | [] => 0
  | c :: _ => c.toNat
def pH (b : List UInt8) : List UInt8 := (b.drop 1).take (pN b)
def pT (b : List UInt8) : List UInt8 := b.drop (1 + pN b)
def getE : Nat → List UInt8 → Int
  | 0, b => if b = [] then 0 else 4
  | n + 1, b => if pE b = 0 then getE n (pT b) else pE b
def getL : Nat → List UInt8 → List (List UInt8)
  | 0, _ => []
  | n + 1, b => pH b :: getL n (pT b)
theorem getL_length (n : Nat) (b : List UInt8) : (getL n b).length = n := by
  induction n generalizing b with
  | zero => rfl
  | succ n ih => simp [getL, ih]

def GetPost (w : World) (n : Nat) (b : List UInt8) (e : Ending) (w' : World) : Prop :=
  ∃ v, e = .returned (.tuple #[v, .int .i64 (getE n b)]) ∧ (getE n b = 0 → w'.ownsRow w.heap.size 9 1 v n (strs (getL n b))) ∧ Fr [] w w'

set_option maxHeartbeats 2000000 in
theorem get_any (b : List UInt8) (n : Nat) (w : World) (hn : n ≤ 10) (hb : b.length ≤ 140737488351232) :
    Calls Tryz.prog 245 #[.string (B b), .int .i64 n] w (GetPost w n b) := by
  obtain ⟨i0, hi, hz0, hz1, hz2⟩ := info_parts infoStr
  go_enter Tryz.func245, Tryz.ntmps245
  go_wp2
  go_loopw [0, 6, 9] (fun bv ov iv wr => ∃ (k m : Nat) (rest : List UInt8) (acc : List (List UInt8)), k + m = n ∧ iv = .int .i64 k ∧ bv = .string (B rest) ∧ rest.length ≤ b.length ∧ Hid (getE m rest = getE n b) ∧ Hid (acc ++ getL m rest = getL n b) ∧ wr.ownsRow w.heap.size 9 1 ov k (strs acc) ∧ Fr [] w wr) (fun _ _ iv _ => n - (intOf iv).toNat)
  case atStart => exact ⟨0, n, b, [], by omega, rfl, rfl, Nat.le_refl _, Lib.hid rfl, Lib.hid rfl, World.ownsRow_nil _ _ _ _, Fr.refl _ _⟩
  case round =>
    obtain ⟨k, m, rest, acc, hkm, rfl, rfl, hrl, hE, hL, hown, hF⟩ := hrel
    cases m with
    | zero =>
      have hkn : ¬ (k : Int) < n := by omega
      have hLn : acc = getL n b := by have := hL.out; simpa [getL] using this
      have hE' := hE.out
      cases rest with
      | nil =>
        have hE0 : getE n b = 0 := by rw [← hE']; rfl
        have HE0 := Lib.hid hE0
        have HLn := Lib.hid hLn
        clear hE hL hE' hE0 hLn
        go_wp2
        go_ret2
        refine ⟨_, ret_pair _ _ _ _ rfl (by rw [HE0.out]; rfl), fun _ => ?_, hF⟩
        rw [← HLn.out, ← show k = n from by omega]; exact hown
      | cons c r =>
        have hE0 : getE n b = 4 := by rw [← hE']; rfl
        have HE0 := Lib.hid hE0
        clear hE hL hE' hE0 hLn
        go_wp2
        go_ret2
        exact ⟨_, ret_pair _ _ _ _ rfl (by rw [HE0.out]; rfl), fun h => by rw [HE0.out] at h; omega, hF⟩
    | succ m =>
      have hkn : (k : Int) < n := by omega
      have hk10 : k < 10 := by omega
      have hE' := hE.out
      rw [getE] at hE'
      cases rest with
      | nil =>
        have hE0 : getE n b = 5 := by rw [← hE']; rfl
        have HE0 := Lib.hid hE0
        clear hE hL hE' hE0
        go_wp2
        go_ret2
        exact ⟨_, ret_pair _ _ _ _ rfl (by rw [HE0.out]; rfl), fun h => by rw [HE0.out] at h; omega, hF⟩
      | cons c r =>
        by_cases h60 : 60 < c.toNat
        · have hE0 : getE n b = 2 := by rw [← hE']; simp [pE, h60]
          have HE0 := Lib.hid hE0
          have h60' : (60 : Int) < c.toNat := by omega
          clear hE hL hE' hE0
          go_wp2
          go_ret2
          exact ⟨_, ret_pair _ _ _ _ rfl (by rw [HE0.out]; rfl), fun h => by rw [HE0.out] at h; omega, hF⟩
        · have h60' : ¬ (60 : Int) < c.toNat := by omega
          by_cases hlen : r.length < c.toNat
          · have hE0 : getE n b = 5 := by rw [← hE']; simp [pE, h60, hlen]
            have HE0 := Lib.hid hE0
            have hlen' : (r.length : Int) < c.toNat := by omega
            have hrl' : r.length + 1 ≤ b.length := by simpa using hrl
            clear hE hL hE' hE0
            go_wp2
            go_ret2
            exact ⟨_, ret_pair _ _ _ _ rfl (by rw [HE0.out]; rfl), fun h => by rw [HE0.out] at h; omega, hF⟩
          · have hp : pE (c :: r) = 0 := by simp [pE, h60, hlen]
            rw [if_pos hp] at hE'
            have hL' := hL.out
            have e1 : pH (c :: r) = r.take c.toNat := rfl
            have e2 : pT (c :: r) = r.drop c.toNat := by unfold pT; rw [Nat.add_comm]; rfl
            rw [getL, e1, e2] at hL'
            rw [e2] at hE'
            have HE := Lib.hid hE'
            have HL := Lib.hid hL'
            have hlen' : ¬ (r.length : Int) < c.toNat := by omega
            have hrl' : r.length + 1 ≤ b.length := by simpa using hrl
            have hsz := hF.size
            clear hE hL hE' hL' hp e1 e2 hrl
            go_wp2_with fail
            refine (clone_any (List.take c.toNat r) wr (by rw [List.length_take]; omega)).mono ?_
            rintro e w1 ⟨rfl, hF1⟩
            obtain ⟨x, hx⟩ : ∃ x, List.take c.toNat r = x := ⟨_, rfl⟩
            rw [hx] at HL ⊢
            have Hx := Lib.hid hx
            have hown1 := own_fr hown hF1 (by simp)
            have hF2 := hF.trans hF1
            have hsz1 := hF1.size
            clear hown hF hF1 hx
            go_wp2_with (at_builtin; refine wpList_append_own _ rfl _ _ 157 rfl w.heap.size 9 i0 (.string ByteArray.empty) 1 16 Tryz.underlying157 hi hz0 hz1 hz2 rfl (by decide) _ _ _ rfl (hown1.alloc _) ⟨w1.heap.size, 0, none⟩ 1 1 [.string (B x)] rfl rfl ?c1 ?c2 ?c3 ?c4 ?c5 ?_)
            case c1 => exact new_cells _ _ _
            case c2 => simp [Value.oneCell']
            case c3 => unfold maxLen; omega
            case c4 => omega
            case c5 => simp; omega
            intro v' w2 hown' hgr' _
            have hF3 : Fr [] w w2 := (hF2.alloc _).grown hgr' (fun k hk => by have := own_new hown1 k hk; omega)
            clear hgr' hown1 hF2
            go_wp2
            go_roundw
            case rel =>
              refine ⟨k + 1, m, List.drop c.toNat r, acc ++ [x], by omega, by go_num, ?_, by rw [List.length_drop]; omega, HE, Lib.hid (by rw [List.append_assoc]; exact HL.out), ?_, hF3⟩
              · rw [Nat.add_comm 1, List.drop_succ_cons, List.take_of_length_le (by rw [List.length_drop]; omega)]
              · have : strs (acc ++ [x]) = strs acc ++ [.string (B x)] := by simp [strs]
                rw [this]; exact hown'
            case measure => (simp [intOf]) <;> omega

def greqN (b : List UInt8) : List UInt8 := if getE 2 b = 0 then pH b else []
def greqS (b : List UInt8) : List UInt8 := if getE 2 b = 0 then pH (pT b) else []
def gsayE (b : List UInt8) : Int := if b = [] then 0 else getE 1 b
def gsayL (b : List UInt8) : List UInt8 := if b = [] then [] else if getE 1 b = 0 then pH b else []
theorem own_cell {w : World} {base : Nat} {e : TypeId} {v : Value} {n : Nat} {xs : List Value} (h : w.ownsRow base e 1 v n xs) (hn : 0 < n) : ∃ g cap, v = .slice (some ⟨g, 0, none⟩) n cap ∧ base ≤ g ∧ g < w.heap.size ∧ ∀ j (hj : j < xs.length), w.cell? ⟨g, j, none⟩ = some xs[j] := by
  obtain ⟨g, cap, rfl, hg, hlt⟩ := h.form hn
  refine ⟨g, cap, rfl, hg, hlt, fun j hj => ?_⟩
  have := h.cells (g := g) rfl j _ (List.getElem?_eq_getElem hj)
  have hp : (⟨g, 0, none⟩ : Addr).add j = ⟨g, j, none⟩ := by unfold Addr.add; split <;> simp_all
  rw [hp] at this; exact this
set_option maxHeartbeats 1000000 in
theorem getReq_any (b : List UInt8) (w : World) (hb : b.length ≤ 140737488351232) :
    Calls Tryz.prog 101 #[.string (B b)] w fun e w' => e = .returned (.tuple #[.string (B (greqN b)), .string (B (greqS b)), .int .i64 (getE 2 b)]) ∧ Fr [] w w' := by
  have C := get_any b 2 w (by omega) hb
  by_cases hE : getE 2 b = 0
  · have e1 : greqN b = pH b := by unfold greqN; rw [if_pos hE]
    have e2 : greqS b = pH (pT b) := by unfold greqS; rw [if_pos hE]
    rw [e1, e2, hE]
    have HE := Lib.hid hE
    have HC := Lib.hid C
    clear hE C e1 e2
    go_enter Tryz.func101, Tryz.ntmps101
    go_wp2_with fail
    refine HC.out.mono ?_
    rintro e w1 ⟨v, rfl, hown, hF⟩
    obtain ⟨g, cap, rfl, hg, hlt, hcs⟩ := own_cell (hown HE.out) (by omega)
    have c0 : w1.cell? ⟨g, 0, none⟩ = some (.string (B (pH b))) := hcs 0 (by simp [strs, getL])
    have c1 : w1.cell? ⟨g, 1, none⟩ = some (.string (B (pH (pT b)))) := hcs 1 (by simp [strs, getL])
    rw [HE.out]
    clear hown hcs HC
    go_wp2
    go_quiet (fail)
    go_wp2
    go_ret3
    exact ⟨rfl, hF.drewN _⟩
  · have e1 : greqN b = [] := by unfold greqN; rw [if_neg hE]
    have e2 : greqS b = [] := by unfold greqS; rw [if_neg hE]
    have hne : (getE 2 b != 0) = true := by simpa using hE
    rw [e1, e2]
    obtain ⟨X, hX⟩ : ∃ X, getE 2 b = X := ⟨_, rfl⟩
    rw [hX] at hne ⊢
    have HX := Lib.hid hX
    have HC := Lib.hid C
    clear hE C e1 e2 hX
    go_enter Tryz.func101, Tryz.ntmps101
    go_wp2_with fail
    refine HC.out.mono ?_
    rintro e w1 ⟨v, rfl, _, hF⟩
    rw [HX.out]
    go_wp2
    go_ret3
    exact ⟨rfl, hF⟩
end Go.Proofs.YtfchbppfbepelaaGreat
