/- pap: the document's own answer. -/
import Derived.Test.YtfchbppfbepelaaGreatPap4
import Derived.IntWalk
namespace Go.Proofs.YtfchbppfbepelaaGreat
open Go.RowKit
set_option linter.unusedVariables false

theorem ret_tri (a b c a' b' c' : Value) (h1 : a = a') (h2 : b = b') (h3 : c = c') : Ending.returned (.tuple #[a, b, c]) = .returned (.tuple #[a', b', c']) := by rw [h1, h2, h3]
theorem be1_small (l : List UInt8) (h : l.length ≤ 60) : be 1 (l.length : Int) = bytesOf [(l.length : Int)] := by
  have e : (l.length : Int) % 256 = l.length := by omega
  simp [be, bytesOf, e]
theorem one_be (l : List UInt8) (h : l.length ≤ 60) : one l = be 1 (l.length : Int) ++ l := by rw [be1_small l h]; rfl

theorem rputReq_any (n s : List UInt8) (w : World) (hn : n.length ≤ 140737488355328) (hs : s.length ≤ 140737488355328) :
    Calls Tryz.prog 246 #[.string (B n), .string (B s)] w fun e w' => e = .returned (.tuple #[.string (B (reqL n s)), .int .i64 (reqE n s)]) ∧ Fr [] w w' := by
  by_cases h1 : n.length ≤ 60
  · have h1' : ¬ (60 : Int) < n.length := by omega
    by_cases h2 : s.length ≤ 60
    · have h2' : ¬ (60 : Int) < s.length := by omega
      have eL : reqL n s = be 1 (n.length : Int) ++ (n ++ (be 1 (s.length : Int) ++ s)) := by unfold reqL; rw [if_pos ⟨h1, h2⟩, one_be n h1, one_be s h2, List.append_assoc]
      have eE : reqE n s = 0 := by unfold reqE; rw [if_pos ⟨h1, h2⟩]
      rw [eL, eE]
      have b1 := be_length 1 (n.length : Int)
      have b2 := be_length 1 (s.length : Int)
      have L1 := fun W => low_any (n.length : Int) 1 W (by omega) (by omega)
      have L2 := fun W => low_any (s.length : Int) 1 W (by omega) (by omega)
      have L1' := Lib.hid L1
      have L2' := Lib.hid L2
      obtain ⟨X, hX⟩ : ∃ X, be 1 (n.length : Int) = X := ⟨_, rfl⟩
      obtain ⟨Y, hY⟩ : ∃ Y, be 1 (s.length : Int) = Y := ⟨_, rfl⟩
      rw [hX] at b1 L1' ⊢
      rw [hY] at b2 L2' ⊢
      clear eL eE L1 L2 hX hY h1 h2
      go_enter Tryz.func246, Tryz.ntmps246
      go_wp2_with fail
      refine (L1'.out _).mono ?_
      rintro e w1 ⟨rfl, hF1⟩
      go_wp2_with fail
      refine (L2'.out _).mono ?_
      rintro e w2 ⟨rfl, hF2⟩
      go_wp2
      go_ret2
      exact ⟨rfl, hF1.trans hF2⟩
    · have h2' : (60 : Int) < s.length := by omega
      have eL : reqL n s = [] := by unfold reqL; rw [if_neg (fun h => h2 h.2)]
      have eE : reqE n s = 2 := by unfold reqE; rw [if_neg (fun h => h2 h.2)]
      rw [eL, eE]
      clear eL eE h1 h2
      go_enter Tryz.func246, Tryz.ntmps246
      go_wp2
      go_ret2
      exact ⟨rfl, Fr.refl _ _⟩
  · have h1' : (60 : Int) < n.length := by omega
    have eL : reqL n s = [] := by unfold reqL; rw [if_neg (fun h => h1 h.1)]
    have eE : reqE n s = 2 := by unfold reqE; rw [if_neg (fun h => h1 h.1)]
    rw [eL, eE]
    clear eL eE h1
    go_enter Tryz.func246, Tryz.ntmps246
    go_wp2
    go_ret2
    exact ⟨rfl, Fr.refl _ _⟩
def pcH (b : List UInt8) : List UInt8 := if pE b = 0 then pH b else []
def pcT (b : List UInt8) : List UInt8 := if pE b = 0 then pT b else []
theorem piece_any (b : List UInt8) (w : World) (hb : b.length ≤ 140737488355328) :
    Calls Tryz.prog 249 #[.string (B b)] w fun e w' => e = .returned (.tuple #[.string (B (pcH b)), .string (B (pcT b)), .int .i64 (pE b)]) ∧ Fr [] w w' := by
  cases b with
  | nil =>
    go_enter Tryz.func249, Tryz.ntmps249
    go_wp2
    go_ret3
    exact ⟨rfl, Fr.refl _ _⟩
  | cons c r =>
    have hcw : wrap64 (c.toNat : Int) = (c.toNat : Int) := by have := byte_bd c; unfold wrap64; omega
    have hb0 : r.length + 1 ≤ 140737488355328 := by simpa using hb
    by_cases h60 : 60 < c.toNat
    · have h60' : (60 : Int) < c.toNat := by omega
      have e0 : pE (c :: r) = 2 := by simp [pE, h60]
      have e1 : pcH (c :: r) = [] := by unfold pcH; rw [e0]; rfl
      have e2 : pcT (c :: r) = [] := by unfold pcT; rw [e0]; rfl
      rw [e0, e1, e2]
      clear e0 e1 e2 h60
      go_enter Tryz.func249, Tryz.ntmps249
      go_wp2
      go_ret3
      exact ⟨rfl, Fr.refl _ _⟩
    · have h60' : ¬ (60 : Int) < c.toNat := by omega
      by_cases hl : r.length < c.toNat
      · have hl' : (r.length : Int) < c.toNat := by omega
        have e0 : pE (c :: r) = 5 := by simp [pE, h60, hl]
        have e1 : pcH (c :: r) = [] := by unfold pcH; rw [e0]; rfl
        have e2 : pcT (c :: r) = [] := by unfold pcT; rw [e0]; rfl
        rw [e0, e1, e2]
        clear e0 e1 e2 h60 hl hb
        go_enter Tryz.func249, Tryz.ntmps249
        go_wp2
        go_ret3
        exact ⟨rfl, Fr.refl _ _⟩
      · have hl' : ¬ (r.length : Int) < c.toNat := by omega
        have e0 : pE (c :: r) = 0 := by simp [pE, h60, hl]
        have e1 : pcH (c :: r) = r.take c.toNat := by unfold pcH; rw [e0]; rfl
        have e2 : pcT (c :: r) = r.drop c.toNat := by unfold pcT; rw [e0, if_pos rfl]; unfold pT; rw [Nat.add_comm]; rfl
        rw [e0, e1, e2]
        clear e0 e1 e2 h60 hb
        go_enter Tryz.func249, Tryz.ntmps249
        have i2 : IntKind.i64.wrap (1 + (c.toNat : Int)) = 1 + (c.toNat : Int) := IntWalk.i64_in _ (by omega)
        have i3 : 1 ≤ r.length + 1 := by omega
        go_wp2
        go_quiet (fail)
        go_wp2
        go_ret3
        refine ⟨ret_tri _ _ _ _ _ _ ?_ ?_ rfl, (Fr.refl _ _).drewN _⟩
        · show Value.string (B (List.take (1 + c.toNat - 1) r)) = _
          rw [Nat.add_sub_cancel_left]
        · show Value.string (B (List.take (r.length + 1 - (1 + c.toNat)) (List.drop (1 + c.toNat) (c :: r)))) = _
          rw [Nat.add_comm 1, List.drop_succ_cons, List.take_of_length_le (by rw [List.length_drop]; omega)]
theorem pcT_le (b : List UInt8) : (pcT b).length ≤ b.length := by
  unfold pcT pT; split
  · rw [List.length_drop]; omega
  · simp
theorem rgetReq_any (b : List UInt8) (w : World) (hb : b.length ≤ 140737488351232) :
    Calls Tryz.prog 108 #[.string (B b)] w fun e w' => e = .returned (.tuple #[.string (B (greqN b)), .string (B (greqS b)), .int .i64 (getE 2 b)]) ∧ Fr [] w w' := by
  have P1 := fun W => piece_any b W (by omega)
  have P2 := fun W => piece_any (pcT b) W (by have := pcT_le b; omega)
  have P1' := Lib.hid P1
  have P2' := Lib.hid P2
  clear P1 P2
  have g2 : getE 2 b = if pE b = 0 then (if pE (pT b) = 0 then (if pT (pT b) = [] then 0 else 4) else pE (pT b)) else pE b := rfl
  by_cases h1 : pE b = 0
  · have tb : pcT b = pT b := by unfold pcT; rw [if_pos h1]
    have hb1 : pcH b = pH b := by unfold pcH; rw [if_pos h1]
    rw [tb] at P2' P1'
    rw [h1, hb1] at P1'
    rw [if_pos h1] at g2
    by_cases h2 : pE (pT b) = 0
    · have tb2 : pcT (pT b) = pT (pT b) := by unfold pcT; rw [if_pos h2]
      have hb2 : pcH (pT b) = pH (pT b) := by unfold pcH; rw [if_pos h2]
      rw [h2, hb2, tb2] at P2'
      rw [if_pos h2] at g2
      by_cases h3 : pT (pT b) = []
      · rw [if_pos h3] at g2
        rw [h3] at P2'
        have e1 : greqN b = pH b := by unfold greqN; rw [if_pos g2]
        have e2 : greqS b = pH (pT b) := by unfold greqS; rw [if_pos g2]
        rw [g2, e1, e2]
        clear g2 e1 e2 h1 tb hb1 h2 tb2 hb2 h3 hb
        go_enter Tryz.func108, Tryz.ntmps108
        go_wp2_with fail
        refine (P1'.out _).mono ?_
        rintro e w1 ⟨rfl, hF1⟩
        go_wp2_with fail
        refine (P2'.out _).mono ?_
        rintro e w2 ⟨rfl, hF2⟩
        go_wp2
        go_ret3
        exact ⟨rfl, hF1.trans hF2⟩
      · rw [if_neg h3] at g2
        have hne : (pT (pT b)).isEmpty = false := by simpa using h3
        have e1 : greqN b = [] := by unfold greqN; rw [g2]; rfl
        have e2 : greqS b = [] := by unfold greqS; rw [g2]; rfl
        rw [g2, e1, e2]
        obtain ⟨Z, hZ⟩ : ∃ Z, pT (pT b) = Z := ⟨_, rfl⟩
        rw [hZ] at P2' hne
        clear g2 e1 e2 h1 tb hb1 h2 tb2 hb2 h3 hb hZ
        go_enter Tryz.func108, Tryz.ntmps108
        go_wp2_with fail
        refine (P1'.out _).mono ?_
        rintro e w1 ⟨rfl, hF1⟩
        go_wp2_with fail
        refine (P2'.out _).mono ?_
        rintro e w2 ⟨rfl, hF2⟩
        go_wp2
        go_ret3
        exact ⟨rfl, hF1.trans hF2⟩
    · rw [if_neg h2] at g2
      have hne : (pE (pT b) != 0) = true := by simpa using h2
      have e1 : greqN b = [] := by unfold greqN; rw [g2, if_neg h2]
      have e2 : greqS b = [] := by unfold greqS; rw [g2, if_neg h2]
      rw [g2, e1, e2]
      obtain ⟨Z, hZ⟩ : ∃ Z, pE (pT b) = Z := ⟨_, rfl⟩
      rw [hZ] at P2' hne ⊢
      clear g2 e1 e2 h1 tb hb1 h2 hb hZ
      go_enter Tryz.func108, Tryz.ntmps108
      go_wp2_with fail
      refine (P1'.out _).mono ?_
      rintro e w1 ⟨rfl, hF1⟩
      go_wp2_with fail
      refine (P2'.out _).mono ?_
      rintro e w2 ⟨rfl, hF2⟩
      go_wp2
      go_ret3
      exact ⟨rfl, hF1.trans hF2⟩
  · rw [if_neg h1] at g2
    have hne : (pE b != 0) = true := by simpa using h1
    have e1 : greqN b = [] := by unfold greqN; rw [g2, if_neg h1]
    have e2 : greqS b = [] := by unfold greqS; rw [g2, if_neg h1]
    rw [g2, e1, e2]
    obtain ⟨Z, hZ⟩ : ∃ Z, pE b = Z := ⟨_, rfl⟩
    rw [hZ] at P1' hne ⊢
    clear g2 e1 e2 h1 hb hZ
    go_enter Tryz.func108, Tryz.ntmps108
    go_wp2_with fail
    refine (P1'.out _).mono ?_
    rintro e w1 ⟨rfl, hF1⟩
    go_wp2
    go_ret3
    exact ⟨rfl, hF1⟩
end Go.Proofs.YtfchbppfbepelaaGreat
