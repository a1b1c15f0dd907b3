/- Sealed bytes of which one is changed; the walk of WireChanged. -/
import Derived.Test.YtmdgilhjiooalaaHexLaw
import Derived.Test.YtmdgilhjiooalaaSeal
namespace Go.Proofs.Ytmdgilhjiooalaa
open Go.RowKit
set_option linter.unusedVariables false

theorem xcanR {a b c : Nat} (h : a ^^^ c = b ^^^ c) : a = b := by
  have := congrArg (fun x => x ^^^ c) h
  simpa [Nat.xor_assoc] using this
theorem xcanL {a b c : Nat} (h : c ^^^ a = c ^^^ b) : a = b := xcanR (c := c) (by rw [Nat.xor_comm a, Nat.xor_comm b]; exact h)
theorem sealL_take' (l : List UInt8) : (sealL l).take l.length = l := by simp [sealL]
theorem cs1_inj {x y : Nat} (hx : x < 65536) (hy : y < 65536) (h : cs1 x = cs1 y) : x = y := by
  have key : ∀ a b : Nat, a < 32768 → b < 32768 → a ^^^ 33800 ≠ b := by
    intro a b ha hb e
    have h1 : a.testBit 15 = false := Nat.testBit_lt_two_pow (by simpa using ha)
    have h2 : b.testBit 15 = false := Nat.testBit_lt_two_pow (by simpa using hb)
    have h3 : (a ^^^ 33800).testBit 15 = true := by rw [Nat.testBit_xor, h1]; decide
    rw [e, h2] at h3; cases h3
  unfold cs1 at h
  by_cases h1 : x % 2 = 1 <;> by_cases h2 : y % 2 = 1
  · rw [if_pos h1, if_pos h2] at h
    have : x / 2 = y / 2 := xcanR h
    omega
  · rw [if_pos h1, if_neg h2] at h
    exact absurd h (key _ _ (by omega) (by omega))
  · rw [if_neg h1, if_pos h2] at h
    exact absurd h.symm (key _ _ (by omega) (by omega))
  · rw [if_neg h1, if_neg h2] at h
    omega
theorem csN_inj (n : Nat) {x y : Nat} (hx : x < 65536) (hy : y < 65536) (h : csN n x = csN n y) : x = y := by
  induction n with
  | zero => exact h
  | succ n ih => exact ih (cs1_inj (csN_lt n hx) (csN_lt n hy) h)
theorem crcB_inj {x y : Nat} (b : UInt8) (hx : x < 65536) (hy : y < 65536) (h : crcB x b = crcB y b) : x = y := by
  have hb : b.toNat < 65536 := by have := b.toNat_lt; omega
  exact xcanR (csN_inj 8 (xor_lt16 hx hb) (xor_lt16 hy hb) h)
theorem crcB_ne {x : Nat} (b c : UInt8) (hx : x < 65536) (h : crcB x b = crcB x c) : b = c := by
  have hb : b.toNat < 65536 := by have := b.toNat_lt; omega
  have hc : c.toNat < 65536 := by have := c.toNat_lt; omega
  exact UInt8.toNat_inj.1 (xcanL (csN_inj 8 (xor_lt16 hx hb) (xor_lt16 hx hc) h))
theorem crcL_inj (l : List UInt8) {x y : Nat} (hx : x < 65536) (hy : y < 65536) (h : crcL l x = crcL l y) : x = y := by
  induction l generalizing x y with
  | nil => exact h
  | cons b l ih => exact crcB_inj b hx hy (ih (crcB_lt b hx) (crcB_lt b hy) h)
theorem fcs_set (l : List UInt8) (k : Nat) (h : k < l.length) (y : UInt8) (hf : fcs (l.set k y) = fcs l) : y = l[k] := by
  have e1 : crcL (l.set k y) 65535 = crcL l 65535 := by
    have h1 := crcL_lt (l.set k y) (x := 65535) (by omega)
    have h2 := crcL_lt l (x := 65535) (by omega)
    unfold fcs at hf
    omega
  have hs : l.set k y = l.take k ++ y :: l.drop (k + 1) := List.set_eq_take_append_cons_drop.trans (if_pos h)
  have hl : l = l.take k ++ l[k] :: l.drop (k + 1) := by rw [← List.drop_eq_getElem_cons h, List.take_append_drop]
  rw [hs] at e1
  have e2 : crcL l 65535 = crcL (l.take k ++ l[k] :: l.drop (k + 1)) 65535 := congrArg (crcL · 65535) hl
  rw [e2] at e1
  unfold crcL at e1
  rw [List.foldl_append, List.foldl_append, List.foldl_cons, List.foldl_cons] at e1
  have hx := crcL_lt (l.take k) (x := 65535) (by omega)
  exact crcB_ne _ _ hx (crcL_inj (l.drop (k + 1)) (crcB_lt _ hx) (crcB_lt _ hx) e1)

theorem two_bytes_inj {f g : Nat} (hf : f ≤ 65535) (hg : g ≤ 65535) (h : bytesOf [(f : Int) % 256, (f : Int) / 256] = bytesOf [(g : Int) % 256, (g : Int) / 256]) : f = g := by
  simp only [bytesOf, List.map_cons, List.map_nil, List.cons.injEq, and_true] at h
  obtain ⟨h1, h2⟩ := h
  have a1 := u8_toNat ((f : Int) % 256) (by omega) (by omega)
  have a2 := u8_toNat ((f : Int) / 256) (by omega) (by omega)
  have b1 := u8_toNat ((g : Int) % 256) (by omega) (by omega)
  have b2 := u8_toNat ((g : Int) / 256) (by omega) (by omega)
  rw [h1, b1] at a1
  rw [h2, b2] at a2
  omega

theorem uns_set (l : List UInt8) (k : Nat) (h : k < l.length + 2) (y : UInt8) (hy : y ≠ (sealL l)[k]'(by rw [sealL_length]; exact h)) : unsE ((sealL l).set k y) = 6 := by
  have hlen : ((sealL l).set k y).length = l.length + 2 := by rw [List.length_set, sealL_length]
  unfold unsE
  rw [if_neg (by omega), hlen, Nat.add_sub_cancel]
  rw [if_neg]
  intro hc
  have hk : ((sealL l).set k y)[k]'(by rw [hlen]; exact h) = y := List.getElem_set_self ..
  by_cases hkl : k < l.length
  · have hm : ((sealL l).set k y).take l.length = l.set k y := by
      rw [List.take_set, sealL_take']
    rw [hm] at hc
    have hd := congrArg (List.drop l.length) hc
    have e1 : (sealL (l.set k y)).drop l.length = bytesOf [(fcs (l.set k y) : Int) % 256, (fcs (l.set k y) : Int) / 256] := by
      unfold sealL; rw [List.drop_left' (by simp)]
    have e2 : ((sealL l).set k y).drop l.length = bytesOf [(fcs l : Int) % 256, (fcs l : Int) / 256] := by
      rw [List.drop_set_of_lt hkl]; unfold sealL; rw [List.drop_left' rfl]
    rw [e1, e2] at hd
    have := fcs_set l k hkl y (two_bytes_inj (fcs_le _) (fcs_le _) hd)
    apply hy
    rw [this]
    unfold sealL
    rw [List.getElem_append_left hkl]
  · have hm : ((sealL l).set k y).take l.length = l := by
      rw [List.take_set_of_le (by omega), sealL_take']
    rw [hm] at hc
    apply hy
    rw [← hk]
    congr 1
    exact hc.symm

/-- []byte(s): a new block whose first cells are the bytes, none of them frozen -/
theorem bytes_new (w : World) (l : List UInt8) (cap : Nat) (T : Nat) (fr : Nat × Nat) (W : World) (hfr : l.length ≤ fr.1)
    (hW : W = w.drew.alloc (.cells (bytesRow (B l) cap) T fr)) :
    (∀ j (h : j < l.length), W.cell? ⟨w.heap.size, j, none⟩ = some (.int .u8 (l[j].toNat : Int)) ∧ W.frozen? ⟨w.heap.size, j, none⟩ = false) ∧ Fr [] w W := by
  subst hW
  refine ⟨fun j h => ⟨?_, ?_⟩, (Fr.refl _ _).drew.alloc _⟩
  · have e : (w.drew.alloc (.cells (bytesRow (B l) cap) T fr)).cell? ⟨w.drew.heap.size, j, none⟩ = (bytesRow (B l) cap)[j]? := World.cell?_alloc_mark _ _ _ _ _
    have h2 := bytesRow_at (B l) cap j (by simpa [B] using h)
    rw [show w.heap.size = w.drew.heap.size from rfl, e, h2]
    simp [B]
  · have e : (w.drew.alloc (.cells (bytesRow (B l) cap) T (fr.1, fr.2))).frozen? ⟨w.drew.heap.size, j, none⟩ = (decide (fr.1 ≤ j) && decide (j < fr.2)) := World.frozen?_alloc_mark _ _ _ _ _ _
    rw [show w.heap.size = w.drew.heap.size from rfl]
    rw [show fr = (fr.1, fr.2) from rfl, e]
    simp; omega
end Go.Proofs.Ytmdgilhjiooalaa
