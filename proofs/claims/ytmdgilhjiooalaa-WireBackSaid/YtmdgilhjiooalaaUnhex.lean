import Derived.Test.YtmdgilhjiooalaaHex
namespace Go.Proofs.Ytmdgilhjiooalaa
open Go.RowKit
set_option linter.unusedVariables false

def isD (c : Int) : Bool := decide (48 ≤ c ∧ c ≤ 57 ∨ 97 ≤ c ∧ c ≤ 102)
def dv (c : Int) : Int := if 48 ≤ c ∧ c ≤ 57 then c - 48 else if 97 ≤ c ∧ c ≤ 102 then c - 87 else 0
theorem dv_bd (c : Int) : 0 ≤ dv c ∧ dv c < 16 := by
  unfold dv; split
  · omega
  · split <;> omega

theorem rdig {a b : Int} {x y : Bool} (h : a = b) (k : x = y) : Ending.returned (.tuple #[.int .u8 a, .bool x]) = .returned (.tuple #[.int .u8 b, .bool y]) := by rw [h, k]
theorem digit_any (c : Int) (w : World) (h0 : 0 ≤ c) (h1 : c < 256) :
    Calls Try.prog 49 #[.int .u8 c] w fun e w' => e = .returned (.tuple #[.int .u8 (dv c), .bool (isD c)]) ∧ w = w' := by
  by_cases a : c < 48
  · have e1 : dv c = 0 := by unfold dv; rw [if_neg (by omega), if_neg (by omega)]
    have e2 : isD c = false := by simp only [isD, decide_eq_false_iff_not]; omega
    rw [e1, e2]; clear e1 e2
    go_enter Try.func49, Try.ntmps49
    go_wp2
    go_ret2
    exact ⟨rfl, rfl⟩
  by_cases b : c ≤ 57
  · have e1 : dv c = c - 48 := by unfold dv; rw [if_pos (by omega)]
    have e2 : isD c = true := by simp only [isD, decide_eq_true_eq]; omega
    have E1 := Lib.hid e1
    rw [e2]; clear e1 e2
    go_enter Try.func49, Try.ntmps49
    go_wp2
    go_ret2
    exact ⟨rdig E1.out.symm rfl, rfl⟩
  by_cases d : c < 97
  · have e1 : dv c = 0 := by unfold dv; rw [if_neg (by omega), if_neg (by omega)]
    have e2 : isD c = false := by simp only [isD, decide_eq_false_iff_not]; omega
    rw [e1, e2]; clear e1 e2
    go_enter Try.func49, Try.ntmps49
    go_wp2
    go_ret2
    exact ⟨rfl, rfl⟩
  by_cases f : c ≤ 102
  · have e1 : dv c = c - 97 + 10 := by unfold dv; rw [if_neg (by omega), if_pos (by omega)]; omega
    have e2 : isD c = true := by simp only [isD, decide_eq_true_eq]; omega
    have E1 := Lib.hid e1
    rw [e2]; clear e1 e2
    go_enter Try.func49, Try.ntmps49
    go_wp2
    go_ret2
    exact ⟨rdig E1.out.symm rfl, rfl⟩
  · have e1 : dv c = 0 := by unfold dv; rw [if_neg (by omega), if_neg (by omega)]
    have e2 : isD c = false := by simp only [isD, decide_eq_false_iff_not]; omega
    rw [e1, e2]; clear e1 e2
    go_enter Try.func49, Try.ntmps49
    go_wp2
    go_ret2
    exact ⟨rfl, rfl⟩

def isDb (b : UInt8) : Bool := isD (b.toNat : Int)
def at0 (l : List UInt8) (i : Nat) : Int := ((l.getD i 0).toNat : Int)
/-- the values of the first k pairs -/
def valsN (l : List UInt8) : Nat → List Int
  | 0 => []
  | k + 1 => valsN l k ++ [dv (at0 l (2 * k)) * 16 + dv (at0 l (2 * k + 1))]
theorem valsN_length (l : List UInt8) (k : Nat) : (valsN l k).length = k := by
  induction k with
  | zero => rfl
  | succ k ih => simp [valsN, ih]
def unhE (l : List UInt8) : Int := if l.length % 2 = 0 ∧ l.all isDb = true then 0 else 4
def unhL (l : List UInt8) : List UInt8 := if unhE l = 0 then bytesOf (valsN l (l.length / 2)) else []
theorem all_take2 (l : List UInt8) (k : Nat) (h : 2 * k + 1 < l.length) : (l.take (2 * (k + 1))).all isDb = ((l.take (2 * k)).all isDb && isD (at0 l (2 * k)) && isD (at0 l (2 * k + 1))) := by
  have e1 : at0 l (2 * k) = (l[2 * k].toNat : Int) := by unfold at0; rw [List.getD, List.getElem?_eq_getElem (by omega)]; rfl
  have e2 : at0 l (2 * k + 1) = (l[2 * k + 1].toNat : Int) := by unfold at0; rw [List.getD, List.getElem?_eq_getElem (by omega)]; rfl
  rw [show 2 * (k + 1) = 2 * k + 1 + 1 from by omega, List.take_succ_eq_append_getElem h, List.take_succ_eq_append_getElem (by omega)]
  simp only [List.all_append, List.all_cons, List.all_nil, Bool.and_true, e1, e2, isDb]
theorem all_take_false (l : List UInt8) (k : Nat) (h : (l.take k).all isDb = false) : l.all isDb = false := by
  rw [← List.take_append_drop k l, List.all_append, h]; rfl

theorem or_dv (x y : Int) (hx : 0 ≤ x ∧ x < 16) (hy : 0 ≤ y ∧ y < 16) : bits .or .u8 (x * 16) y = x * 16 + y :=
  bits_join .u8 8 (by decide) wraps_u8 4 (x * 16) y (by omega) (by omega) (by omega) (by omega) (by omega) (by omega)

set_option maxRecDepth 100000 in
set_option maxHeartbeats 2000000 in
theorem unhex_any (l : List UInt8) (w : World) (hl : l.length ≤ 1000000) :
    Calls Try.prog 26 #[.string (B l)] w fun e w' => e = .returned (.tuple #[.string (B (unhL l)), .int .i64 (unhE l)]) ∧ Fr [] w w' := by
  by_cases hpar : l.length % 2 = 0
  · have hb : ((l.length : Int) % 2 != 0) = false := by rw [bne_eq_false_iff_eq]; omega
    obtain ⟨i0, hi, hz0, hz1, hz2⟩ := info_parts infoB
    have Hp := Lib.hid hpar
    clear hpar
    go_enter Try.func26, Try.ntmps26
    go_wp2
    go_loopw [4, 5] (fun v iv wr => ∃ k : Nat, 2 * k ≤ l.length ∧ iv = .int .i64 (2 * (k : Int)) ∧ wr.ownsRow w.heap.size 5 1 v k ((valsN l k).map (Value.int .u8)) ∧ Fr [] w wr ∧ Hid ((l.take (2 * k)).all isDb = true)) (fun _ iv _ => l.length - (intOf iv).toNat)
    case atStart => exact ⟨0, Nat.zero_le _, rfl, World.ownsRow_nil _ _ _ _, Fr.refl _ _, rfl⟩
    case round =>
      obtain ⟨k, hk, rfl, hown, hF, hall⟩ := hrel
      by_cases hlt : 2 * k < l.length
      · have hlt1 : 2 * k + 1 < l.length := by have := Hp.out; omega
        have hat := all_take2 l k hlt1
        have e1 : at0 l (2 * k) = (l[2 * k].toNat : Int) := by unfold at0; rw [List.getD, List.getElem?_eq_getElem (by omega)]; rfl
        have e2 : at0 l (2 * k + 1) = (l[2 * k + 1].toNat : Int) := by unfold at0; rw [List.getD, List.getElem?_eq_getElem (by omega)]; rfl
        have hv : valsN l (k + 1) = valsN l k ++ [dv (l[2 * k].toNat : Int) * 16 + dv (l[2 * k + 1].toNat : Int)] := by rw [← e1, ← e2]; rfl
        rw [hall.out, e1, e2, Bool.true_and] at hat
        have Hat := Lib.hid hat
        have Hv := Lib.hid hv
        clear hat hv e1 e2
        go_wp2_with fail
        refine (digit_any _ _ (by omega) (byte_bd _)).mono ?_
        rintro e w2 ⟨rfl, rfl⟩
        go_wp2_with fail
        refine (digit_any _ _ (by omega) (byte_bd _)).mono ?_
        rintro e w2 ⟨rfl, rfl⟩
        have hx := dv_bd (l[2 * k].toNat : Int)
        have hy := dv_bd (l[2 * k + 1].toNat : Int)
        generalize dv (l[2 * k].toNat : Int) = x at *
        generalize dv (l[2 * k + 1].toNat : Int) = y at *
        cases hdx : isD (l[2 * k].toNat : Int) with
        | false =>
          have hall' := all_take_false l (2 * (k + 1)) (by rw [Hat.out, hdx]; rfl)
          have e : unhE l = 4 := by unfold unhE; rw [hall', if_neg (by simp)]
          have e' : unhL l = [] := by unfold unhL; rw [e]; rfl
          have E := Lib.hid e
          have E' := Lib.hid e'
          clear e e' hall'
          go_wp2
          go_ret2
          exact ⟨by rw [E.out, E'.out]; rfl, hF⟩
        | true =>
          cases hdy : isD (l[2 * k + 1].toNat : Int) with
          | false =>
            have hall' := all_take_false l (2 * (k + 1)) (by rw [Hat.out, hdx, hdy]; rfl)
            have e : unhE l = 4 := by unfold unhE; rw [hall', if_neg (by simp)]
            have e' : unhL l = [] := by unfold unhL; rw [e]; rfl
            have E := Lib.hid e
            have E' := Lib.hid e'
            clear e e' hall'
            go_wp2
            go_ret2
            exact ⟨by rw [E.out, E'.out]; rfl, hF⟩
          | true =>
            rw [hdx, hdy] at Hat
            have hor := or_dv x y hx hy
            obtain ⟨x0, x1⟩ := hx
            obtain ⟨y0, y1⟩ := hy
            go_wp2_with (at_builtin; refine wpList_append_own _ rfl _ _ 35 rfl w.heap.size 5 i0 (.int .u8 0) 1 1 Try.underlying35 hi hz0 hz1 hz2 rfl (by decide) _ _ _ rfl (hown.alloc _) ⟨wr.heap.size, 0, none⟩ 1 1 [.int .u8 (x * 16 + y)] rfl rfl ?c1 ?c2 ?c3 ?c4 ?c5 ?_)
            case c1 => exact new_cells _ _ _
            case c2 => simp [Value.oneCell']
            case c3 => unfold maxLen; omega
            case c4 => omega
            case c5 => have := hF.size; simp; omega
            intro v' w1 hown' hgr' _
            have hF1 : Fr [] w w1 := (hF.alloc _).grown hgr' (own_new hown)
            clear hgr' hown hF
            go_wp2
            go_roundw
            case rel =>
              refine ⟨k + 1, by omega, by congr 1, ?_, hF1, Hat.out⟩
              rw [Hv.out, List.map_append]
              exact hown'
            case measure => (simp [intOf]) <;> omega
      · have hkl : 2 * k = l.length := by omega
        have hall' : l.all isDb = true := by have := hall.out; rw [hkl, List.take_length] at this; exact this
        have e : unhE l = 0 := by unfold unhE; rw [if_pos ⟨Hp.out, hall'⟩]
        have e' : unhL l = bytesOf (valsN l k) := by unfold unhL; rw [if_pos e, show l.length / 2 = k from by omega]
        have E := Lib.hid e
        have E' := Lib.hid e'
        have hcv := run_str_any (P := Try.prog) Try.underlying35 Try.underlying5 Try.underlying9 (valsN l k) _ hown
        clear e e' hall' hkl
        go_wp2
        go_ret2
        exact ⟨by rw [E.out, E'.out]; rfl, hF⟩
  · have hb : ((l.length : Int) % 2 != 0) = true := by rw [bne_iff_ne]; omega
    have e : unhE l = 4 := by unfold unhE; rw [if_neg (fun h => hpar h.1)]
    have e' : unhL l = [] := by unfold unhL; rw [e]; rfl
    rw [e, e']
    clear e e' hpar
    go_enter Try.func26, Try.ntmps26
    go_wp2
    go_ret2
    exact ⟨rfl, Fr.refl _ _⟩
end Go.Proofs.Ytmdgilhjiooalaa
