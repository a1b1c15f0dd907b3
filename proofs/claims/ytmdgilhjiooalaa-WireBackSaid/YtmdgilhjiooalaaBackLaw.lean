/- What was put is got: the plain law. -/
import Derived.Test.YtmdgilhjiooalaaEtherA
import Derived.Test.YtmdgilhjiooalaaHexLaw
namespace Go.Proofs.Ytmdgilhjiooalaa
open Go.RowKit
set_option linter.unusedVariables false

theorem getD_mid (a : List UInt8) (b : UInt8) (c : List UInt8) (k : Nat) (hk : k = a.length) : (a ++ (b :: c)).getD k 0 = b := by
  subst hk
  simp [List.getD]
theorem getV_be (n : Nat) : ∀ (v : Int) (m m' : List UInt8), 0 ≤ v → v < 256 ^ n → getV (m ++ (be n v ++ m')) m.length n = v := by
  induction n with
  | zero => intro v m m' h0 h1; simp only [Int.pow_zero] at h1; simp only [getV]; omega
  | succ n ih =>
    intro v m m' h0 h1
    rw [Int.pow_succ] at h1
    simp only [getV]
    have e : m ++ (be (n + 1) v ++ m') = m ++ (be n (v / 256) ++ (UInt8.ofNat (v % 256).toNat :: m')) := by simp [be]
    rw [e, ih (v / 256) m _ (by omega) (by omega)]
    have g := getD_mid (m ++ be n (v / 256)) (UInt8.ofNat (v % 256).toNat) m' (m.length + n) (by rw [List.length_append, be_length])
    rw [List.append_assoc] at g
    rw [g, u8_toNat _ (by omega) (by omega)]
    omega
theorem uns_seal (m : List UInt8) : unsE (sealL m) = 0 ∧ unsL (sealL m) = m := by
  have hl := sealL_length m
  have e : unsE (sealL m) = 0 := by
    unfold unsE
    rw [if_neg (by omega), show (sealL m).length - 2 = m.length from by omega, show (sealL m).take m.length = m from by simp [sealL], if_pos rfl]
  refine ⟨e, ?_⟩
  unfold unsL
  rw [if_pos e, show (sealL m).length - 2 = m.length from by omega]
  simp [sealL]
theorem ppp_back (p : Int) (m : List UInt8) (h : ppE p m = 0) : pppE (ppL p m) = 0 ∧ pppV (ppL p m) = p ∧ pppL (ppL p m) = m := by
  have hL : ppL p m = be 2 p ++ m := by unfold ppL; rw [if_pos h]
  have hp : isP p = true := by
    cases hq : isP p with
    | true => rfl
    | false => unfold ppE at h; rw [if_pos hq] at h; omega
  have hm : ¬ 1492 < m.length := by
    intro hc
    unfold ppE at h; rw [hp, if_neg (by simp), if_pos hc] at h; omega
  have hb : 0 ≤ p ∧ p < 256 ^ 2 := by
    unfold isP at hp
    simp only [decide_eq_true_eq] at hp
    omega
  have hv : getV (be 2 p ++ m) 0 2 = p := getV_be 2 p [] m hb.1 hb.2
  have hl : (be 2 p ++ m).length = m.length + 2 := by rw [List.length_append, be_length]; omega
  have e : pppE (be 2 p ++ m) = 0 := by
    unfold pppE
    rw [if_neg (by omega), hv, hp, if_neg (by simp), if_neg (by omega)]
  rw [hL]
  refine ⟨e, ?_, ?_⟩
  · unfold pppV; rw [if_pos e, hv]
  · unfold pppL; rw [if_pos e]; exact List.drop_left' (be_length 2 p)
theorem gra_back (f t : Int) (d : List UInt8) (h : graE f t d = 0) : gmE (graL f t d) = 0 ∧ gmV (graL f t d) = .agg #[.int .i64 f, .int .i64 t, .string (B d)] := by
  have hL : graL f t d = sealL (be 2 f ++ (be 2 t ++ (be 2 d.length ++ d))) := by unfold graL; rw [if_pos h]
  have h1 : ¬ ((f < 0 ∨ 65535 < f) ∨ (t < 0 ∨ 65535 < t)) := by
    intro hc
    unfold graE at h; rw [if_pos hc] at h; omega
  have h2 : ¬ 1500 < d.length := by
    intro hc
    unfold graE at h; rw [if_neg h1, if_pos hc] at h; omega
  obtain ⟨X, hX⟩ : ∃ X, be 2 f ++ (be 2 t ++ (be 2 d.length ++ d)) = X := ⟨_, rfl⟩
  have hl : X.length = d.length + 6 := by rw [← hX]; simp only [List.length_append, be_length]; omega
  have v0 : getV X 0 2 = f := by rw [← hX]; exact getV_be 2 f [] _ (by omega) (by omega)
  have v2 : getV X 2 2 = t := by
    have := getV_be 2 t (be 2 f) (be 2 d.length ++ d) (by omega) (by omega)
    rw [be_length] at this
    rw [← hX]; exact this
  have v4 : getV X 4 2 = d.length := by
    have := getV_be 2 (d.length : Int) (be 2 f ++ be 2 t) d (by omega) (by omega)
    rw [List.length_append, be_length, be_length, List.append_assoc] at this
    rw [← hX]; exact this
  have dr : X.drop 6 = d := by
    rw [← hX, ← List.append_assoc, ← List.append_assoc]
    exact List.drop_left' (by simp only [List.length_append, be_length])
  obtain ⟨u1, u2⟩ := uns_seal X
  rw [hL, hX]
  have e : gmE (sealL X) = 0 := by
    unfold gmE
    rw [u1, u2, v4, if_neg (by simp), if_neg (by omega), if_neg (by omega), if_neg (by omega)]
  refine ⟨e, ?_⟩
  unfold gmV
  rw [if_pos e, u2, v0, v2, dr]
theorem eth_back (x0 x1 x2 x3 x4 x5 y0 y1 y2 y3 y4 y5 t : Int) (d : List UInt8)
    (bx : ∀ x, x ∈ [x0, x1, x2, x3, x4, x5, y0, y1, y2, y3, y4, y5] → 0 ≤ x ∧ x ≤ 255) (h : ethE t d = 0) :
    geE (ethL [x0, x1, x2, x3, x4, x5] [y0, y1, y2, y3, y4, y5] t d) = 0 ∧ geV (ethL [x0, x1, x2, x3, x4, x5] [y0, y1, y2, y3, y4, y5] t d) = .agg #[.int .u8 x0, .int .u8 x1, .int .u8 x2, .int .u8 x3, .int .u8 x4, .int .u8 x5, .int .u8 y0, .int .u8 y1, .int .u8 y2, .int .u8 y3, .int .u8 y4, .int .u8 y5, .int .i64 t, .string (B d)] := by
  have hL : ethL [x0, x1, x2, x3, x4, x5] [y0, y1, y2, y3, y4, y5] t d = bytesOf [x0, x1, x2, x3, x4, x5] ++ (bytesOf [y0, y1, y2, y3, y4, y5] ++ (be 2 t ++ d)) := by unfold ethL; rw [if_pos h]
  have h1 : ¬ (t < 0 ∨ 65535 < t) := by
    intro hc
    unfold ethE at h; rw [if_pos hc] at h; omega
  have h2 : ¬ 1500 < d.length := by
    intro hc
    unfold ethE at h; rw [if_neg h1, if_pos hc] at h; omega
  have hb : ∀ x, x ∈ [x0, x1, x2, x3, x4, x5, y0, y1, y2, y3, y4, y5] → ((UInt8.ofNat x.toNat).toNat : Int) = x := fun x hx => u8_toNat x (bx x hx).1 (by have := (bx x hx).2; omega)
  have hT : getV (bytesOf [x0, x1, x2, x3, x4, x5] ++ (bytesOf [y0, y1, y2, y3, y4, y5] ++ (be 2 t ++ d))) 12 2 = t := by
    have := getV_be 2 t (bytesOf [x0, x1, x2, x3, x4, x5] ++ bytesOf [y0, y1, y2, y3, y4, y5]) d (by omega) (by omega)
    rw [List.append_assoc] at this
    exact this
  have hD : (bytesOf [x0, x1, x2, x3, x4, x5] ++ (bytesOf [y0, y1, y2, y3, y4, y5] ++ (be 2 t ++ d))).drop 14 = d := by
    rw [← List.append_assoc, ← List.append_assoc]
    exact List.drop_left' (by simp only [List.length_append, be_length]; rfl)
  have hl : (bytesOf [x0, x1, x2, x3, x4, x5] ++ (bytesOf [y0, y1, y2, y3, y4, y5] ++ (be 2 t ++ d))).length = d.length + 14 := by
    simp only [List.length_append, be_length]
    show 6 + (6 + (2 + d.length)) = _
    omega
  rw [hL]
  have e : geE (bytesOf [x0, x1, x2, x3, x4, x5] ++ (bytesOf [y0, y1, y2, y3, y4, y5] ++ (be 2 t ++ d))) = 0 := by
    unfold geE; rw [hl, if_neg (by omega), if_neg (by omega)]
  refine ⟨e, ?_⟩
  unfold geV geB geT geD
  simp only [if_pos e, hT, hD]
  simp only [bytesOf, List.map_cons, List.map_nil, List.cons_append, List.nil_append, List.getD_cons_zero, List.getD_cons_succ]
  rw [hb x0 (by simp), hb x1 (by simp), hb x2 (by simp), hb x3 (by simp), hb x4 (by simp), hb x5 (by simp), hb y0 (by simp), hb y1 (by simp), hb y2 (by simp), hb y3 (by simp), hb y4 (by simp), hb y5 (by simp)]
end Go.Proofs.Ytmdgilhjiooalaa
