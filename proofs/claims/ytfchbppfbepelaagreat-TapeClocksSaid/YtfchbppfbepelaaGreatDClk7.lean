/- TapeClocks: Tick of both clocks, whatever the number. -/
import Derived.Test.YtfchbppfbepelaaGreatDClk6
namespace Go.Proofs.YtfchbppfbepelaaGreat
open Go.RowKit Go.Maps
set_option linter.unusedVariables false
def tkB (a : Int) : Prop := a < 1 ∨ 1000000 < a
instance (a : Int) : Decidable (tkB a) := by unfold tkB; infer_instance
def tkN (n a : Int) : Int := if tkB a then n else later n a
def tkL (n : Int) (l : Tms) (a : Int) : Tms := if tkB a then l else undue (later n a) l
def tkK (n : Int) (l : Tms) (a : Int) (ks : List Ky) : Prop := if tkB a then ks = [] else ks.Perm (dks (later n a) l) ∧ Sorted_ l ks
def tkO (n : Int) (D : List DT) (a : Int) : List DT := if tkB a then [] else (tfold (tlater n a) D).1
def tkD (n : Int) (D : List DT) (a : Int) : List DT := if tkB a then D else (tfold (tlater n a) D).2
theorem later_eq (n a : Int) : tlater n a = later n a := rfl
section
variable {w0 w : World} {b c g : Nat} {n o : Int} {l : Tms} {r : Value} {D : List DT} {kp : List (Bl (Int × Int))}
theorem tk_ci (hI : CI n o l) (a : Int) : CI (tkN n a) o (tkL n l a) := by
  unfold tkN tkL
  by_cases h : tkB a
  · rw [if_pos h, if_pos h]; exact hI
  · rw [if_neg h, if_neg h]
    exact (hI.later_ a (by unfold tkB at h; omega)).filter_ _
theorem tk_cr (h : CR l D) (a : Int) : CR (tkL n l a) (tkD n D a) := by
  unfold tkL tkD
  by_cases hb : tkB a
  · rw [if_pos hb, if_pos hb]; exact h
  · rw [if_neg hb, if_neg hb, later_eq]
    exact h.undue_ _
theorem tk_keys (hI : CI n o l) (h : CR l D) (a : Int) (ks : List Ky) (hk : tkK n l a ks) : (tkO n D a).map (·.1) = ks := by
  unfold tkK at hk
  unfold tkO
  by_cases hb : tkB a
  · rw [if_pos hb] at hk ⊢
    rw [hk]
    rfl
  · rw [if_neg hb] at hk ⊢
    rw [later_eq]
    exact h.due_ hI _ ks hk.1 hk.2
theorem tk_len (h : CR l D) (hI : CI n o l) (a : Int) : (tkO n D a).length ≤ 300 := by
  unfold tkO
  split
  · simp
  · have := tfold_len (tlater n a) D
    have h2 := h.len
    have h3 := hI.len
    omega
/-- the program's Tick -/
def TkP (w0 w : World) (c : Nat) (n o : Int) (l : Tms) (a : Int) (e : Ending) (w' : World) : Prop := ∃ (ks : List Ky) (A : Option Addr) (cap : Nat), e = .returned (.slice A ks.length cap) ∧ tkK n l a ks ∧ CkIn w0 w' c (tkN n a) o (tkL n l a) ∧ (∃ S, Fr S w w' ∧ OffC w0.heap.size w S) ∧ w'.ownsRow w.heap.size 141 2 (.slice A ks.length cap) ks.length (flatKy ks)
theorem tkP (a : Int) (h : CkIn w0 w c n o l) (hI : CI n o l) : Calls Tryz.prog 72 #[.pointer (some ⟨c, 0, none⟩), .int .i64 a] w (TkP w0 w c n o l a) := by
  unfold TkP tkK tkN tkL
  by_cases hb : tkB a
  · simp only [if_pos hb]
    exact (tick_bad a hb).mono fun e w' ⟨he, hF⟩ => ⟨[], none, 0, he, rfl, h.fr0 hF, ⟨[], hF, OffC.nil _ _⟩, World.ownsRow_nil _ _ _ _⟩
  · simp only [if_neg hb]
    exact (tick_y a h hI (by unfold tkB at hb; omega) (by unfold tkB at hb; omega)).mono fun e w' ⟨ks, A, cap, he, hp, hs, hC, hS, ho⟩ => ⟨ks, A, cap, he, ⟨hp, hs⟩, hC, hS, ho⟩
/-- the document's Tick -/
def TkD (B0 : Nat) (w : World) (g : Nat) (n : Int) (D : List DT) (a : Int) (e : Ending) (w' : World) : Prop := ∃ (A : Option Addr) (cap : Nat) (r' : Value), e = .returned (.slice A (tkO n D a).length cap) ∧ w'.ownsRow w.heap.size 151 3 (.slice A (tkO n D a).length cap) (tkO n D a).length (rowF tmF (tkO n D a)) ∧ DCk w' g (tkN n a) r' (tkD n D a) ∧ (∀ q, r'.ownBlock = some q → B0 ≤ q) ∧ Fr [g] w w'
theorem tkD_any {B0 : Nat} (a : Int) (n0 : 0 ≤ n) (n1 : n ≤ 1152921504606846976) (hl : D.length ≤ 1000) (h : DCk w g n r D) (hr : ∀ q, r.ownBlock = some q → B0 ≤ q) (hw : B0 ≤ w.heap.size) : Calls Tryz.prog 73 #[.pointer (some ⟨g, 0, none⟩), .int .i64 a] w (TkD B0 w g n D a) := by
  unfold TkD tkO tkN tkD
  by_cases hb : tkB a
  · simp only [if_pos hb]
    exact (dcTick_bad a hb).mono fun e w' ⟨he, hF⟩ => ⟨none, 0, r, he, World.ownsRow_nil _ _ _ _, h.fr0 hF, hr, hF.mono (by simp)⟩
  · simp only [if_neg hb]
    refine (dcTick_ok a (by unfold tkB at hb; omega) (by unfold tkB at hb; omega) n0 n1 hl h).mono ?_
    rintro e w' ⟨ov, lv, rfl, h1, h2, h3, h4, h5⟩
    obtain ⟨A, cap, rfl⟩ := rown_slice h1
    exact ⟨A, cap, lv, rfl, h1, h2, fun q hq => Nat.le_trans hw (h3 q hq), h5⟩
/-- behind the switch -/
def TCut (w0 : World) (b c g : Nat) (j : Nat) (nO nK : Nat) (PO : Array Value) (k : Ky) (wx : World) : Prop :=
  ∃ n o l r D kp, TCs w0 b c g n o l r D kp wx ∧ o ≤ (j : Int) + 1 ∧ Blk wx nO PO 139 ∧ Blk wx nK (kyC k) 141
theorem OffC.keep {B0 : Nat} {w w' : World} {S : List Nat} (h : OffC B0 w S) (hF : Fr S w w') {q T : Nat} {cs : Array Value} (hB : Blk w q cs T) (hT : T ≠ 137) : Blk w' q cs T :=
  hF.blk hB fun hq => hT ((h q hq).2 _ _ hB)
theorem dc_keep {w w' : World} (hD : DCk w g n r D) (hF : Fr [g] w w') {q T : Nat} {cs : Array Value} (hB : Blk w q cs T) (hT : T ≠ 134) : Blk w' q cs T :=
  hF.blk hB fun hq => by simp at hq; subst hq; exact hB.neT hD.st hT rfl
theorem dc_keep_row {w w' : World} (hD : DCk w g n r D) (hF : Fr [g] w w') {base T sz m : Nat} {v : Value} {ys : List Value} (hB : w.ownsRow base T sz v m ys) (hT : T ≠ 134) : w'.ownsRow base T sz v m ys :=
  rown_frS hB hF fun q hq hqs => by
    simp at hqs
    subst hqs
    obtain ⟨cur, hc⟩ := rown_blk hB q hq
    exact hc.neT hD.st hT rfl
end
end Go.Proofs.YtfchbppfbepelaaGreat
