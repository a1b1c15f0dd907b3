/- The document's pool: a row of places. -/
import Derived.Test.YtnenmgankgadcaaPool5
import Derived.Test.YtnenmgankgadcaaLawPo4
import Derived.Test.YtnenmgankgadcaaEqTwo
import Derived.BigQuiet
namespace Go.Proofs.Ytnenmgankgadcaa
open Go.RowKit Go.Maps
set_option linter.unusedVariables false

def lcell : Option Ky → List Value
  | none => [.bool false, .int .i64 0, .int .i64 0]
  | some k => [.bool true, .int .i64 k.1, .int .i64 k.2]
theorem lcell_len (v : Option Ky) : (lcell v).length = 3 := by cases v <;> rfl
def lL (s : List (Option Ky)) : List Value := s.flatMap lcell
def lC (s : List (Option Ky)) : Array Value := (lL s).toArray
theorem lL_len (s : List (Option Ky)) : (lL s).length = s.length * 3 := by
  unfold lL
  induction s with
  | nil => rfl
  | cons v s ih => rw [List.flatMap_cons, List.length_append, lcell_len, ih, List.length_cons]; omega
theorem lL_get (s : List (Option Ky)) (i : Nat) (v : Option Ky) (h : s[i]? = some v) (c : Nat) (hc : c < 3) : (lL s)[i * 3 + c]? = (lcell v)[c]? := by
  induction s generalizing i with
  | nil => simp at h
  | cons u s ih =>
    unfold lL at *
    rw [List.flatMap_cons]
    cases i with
    | zero =>
      simp only [List.getElem?_cons_zero, Option.some.injEq] at h
      subst h
      rw [Nat.zero_mul, Nat.zero_add, List.getElem?_append_left (by rw [lcell_len]; exact hc)]
    | succ i =>
      simp only [List.getElem?_cons_succ] at h
      rw [List.getElem?_append_right (by rw [lcell_len]; omega), lcell_len, show (i + 1) * 3 + c - 3 = i * 3 + c by omega]
      exact ih i h
theorem lL_set (s : List (Option Ky)) (i : Nat) (v : Option Ky) (hi : i < s.length) : lL (s.set i v) = (lL s).take (i * 3) ++ lcell v ++ (lL s).drop (i * 3 + 3) := by
  induction s generalizing i with
  | nil => simp at hi
  | cons u s ih =>
    unfold lL at *
    cases i with
    | zero =>
      rw [List.set_cons_zero, List.flatMap_cons, List.flatMap_cons, Nat.zero_mul, List.take_zero, List.nil_append, Nat.zero_add, List.drop_append_of_le_length (by rw [lcell_len]; omega)]
      rw [List.drop_of_length_le (by rw [lcell_len]; omega), List.nil_append]
    | succ i =>
      rw [List.set_cons_succ, List.flatMap_cons, List.flatMap_cons, ih i (by simpa using hi)]
      have e1 : (i + 1) * 3 = (lcell u).length + i * 3 := by rw [lcell_len]; omega
      have e2 : (i + 1) * 3 + 3 = (lcell u).length + (i * 3 + 3) := by rw [lcell_len]; omega
      rw [e1, List.take_length_add_append, show (lcell u).length + i * 3 + 3 = (lcell u).length + (i * 3 + 3) by omega, List.drop_length_add_append]
      simp
theorem lL_rep (n : Nat) : (lL (List.replicate n none)).toArray = madeCells (Value.agg #[.bool false, .int .i64 0, .int .i64 0]).cells (n * 3) := by
  apply Array.ext'
  apply List.ext_getElem?
  intro i
  by_cases hi : i < n * 3
  · have h3 : i = i / 3 * 3 + i % 3 := by omega
    have hm : i % 3 < 3 := Nat.mod_lt _ (by decide)
    have hl : (List.replicate n (none : Option Ky))[i / 3]? = some none := by rw [List.getElem?_replicate, if_pos (by omega)]
    have := lL_get (List.replicate n none) (i / 3) none hl (i % 3) hm
    rw [← h3] at this
    rw [List.toList_toArray, this]
    unfold madeCells
    simp [hi, Value.cells]
    rcases (show i % 3 = 0 ∨ i % 3 = 1 ∨ i % 3 = 2 by omega) with h | h | h <;> rw [h] <;> rfl
  · rw [List.getElem?_eq_none (by rw [List.toList_toArray, lL_len, List.length_replicate]; omega), List.getElem?_eq_none (by unfold madeCells; simp; omega)]
/-- the document's pool -/
def dpv (b : Ad) (n r : Nat) : Array Value := #[.int .u8 b.1, .int .u8 b.2.1, .int .u8 b.2.2.1, .int .u8 b.2.2.2, .slice (some ⟨r, 0, none⟩) n n]
structure DPool (w : World) (g r : Nat) (b : Ad) (s : List (Option Ky)) : Prop where
  st : Blk w g (dpv b s.length r) 73
  row : Blk w r (lC s) 75
  bok : AdOk b
  n2 : s.length ≤ 256
  ne : g ≠ r
section
variable {w w' : World} {g r : Nat} {b : Ad} {s : List (Option Ky)}
theorem DPool.fr {S : List Nat} (h : DPool w g r b s) (hF : Fr S w w') (hg : g ∉ S) (hr : r ∉ S) : DPool w' g r b s := ⟨hF.blk h.st hg, hF.blk h.row hr, h.bok, h.n2, h.ne⟩
theorem DPool.fr0 (h : DPool w g r b s) (hF : Fr [] w w') : DPool w' g r b s := h.fr hF (by simp) (by simp)
theorem DPool.at_ (h : DPool w g r b s) (i : Nat) (v : Option Ky) (hi : s[i]? = some v) (c : Nat) (u : Value) (hc : (lcell v)[c]? = some u) : w.cell? ⟨r, i * 3 + c, none⟩ = some u := by
  have hc3 : c < 3 := by have := (List.getElem?_eq_some_iff.1 hc).1; rwa [lcell_len] at this
  refine h.row.c (i * 3 + c) u ?_
  unfold lC
  rw [List.getElem?_toArray, lL_get s i v hi c hc3, hc]
theorem eq_rky (x y : Ky) (w : World) : (Op.equalIn 10000 45 (.agg (kyC x)) (.agg (kyC y))).run Try.prog w = .ok (decide (x = y)) w := by
  have := eq_two 45 (by kernel_rfl) (by kernel_rfl) (by kernel_rfl) x.1 x.2 y.1 y.2 w
  rw [show decide (x = y) = decide (x.1 = y.1 ∧ x.2 = y.2) by rw [decide_eq_decide]; exact Prod.ext_iff]
  exact this
set_option maxRecDepth 100000 in
set_option maxHeartbeats 4000000 in
theorem dhas_yes (k : Ky) (i : Nat) (h : DPool w g r b s) (hi : s[i]? = some (some k)) (hu : ∀ j, j < i → s[j]? ≠ some (some k)) :
    Calls Try.prog 20 #[.pointer (some ⟨g, 0, none⟩), .agg (kyC k)] w fun e w' => e = .returned (.tuple #[.agg (adC (adq (numb b + i))), .bool true]) ∧ Fr [] w w' := by
  have hil := at_lt hi
  have n2 := h.n2
  have HA := Lib.hid fun W => radd_any b.1 b.2.1 b.2.2.1 b.2.2.2 (i : Int) W h.bok.1 h.bok.2.1 h.bok.2.2.1 h.bok.2.2.2 (by omega) (by omega)
  obtain ⟨⟨e0, e1, e2, e3⟩, hev⟩ : ∃ a, adq (numb b + i) = a := ⟨_, rfl⟩
  rw [show adrN (num4 b.1 b.2.1 b.2.2.1 b.2.2.2 + (i : Int)) = adC (adq (numb b + i)) from rfl, hev] at HA
  rw [hev]
  obtain ⟨k1, k2⟩ := k
  have HP := Lib.hid h
  have HI := Lib.hid hi
  have HU := Lib.hid hu
  obtain ⟨b0, b1, b2, b3⟩ := b
  unfold adC adr at HA ⊢
  unfold kyC
  simp only at HA ⊢
  clear h hi hu hev
  go_enter Try.func20, Try.ntmps20
  go_wp2_with fail
  have hBk := (Blk.new w #[.int .i64 k1, .int .i64 k2] 45).alloc (.cells #[.int .u8 0, .int .u8 0, .int .u8 0, .int .u8 0] 23 (0, 0))
  have hBz := Blk.new (w.alloc (.cells #[.int .i64 k1, .int .i64 k2] 45 (0, 0))) #[.int .u8 0, .int .u8 0, .int .u8 0, .int .u8 0] 23
  have hF := ((Fr.refl [] w).alloc (.cells #[.int .i64 k1, .int .i64 k2] 45 (0, 0))).alloc (.cells #[.int .u8 0, .int .u8 0, .int .u8 0, .int .u8 0] 23 (0, 0))
  rw [show (w.alloc (.cells #[.int .i64 k1, .int .i64 k2] 45 (0, 0))).heap.size = w.heap.size + 1 by simp] at hBz
  obtain ⟨W0, hW0⟩ : ∃ W, ((w.alloc (.cells #[.int .i64 k1, .int .i64 k2] 45 (0, 0))).alloc (.cells #[.int .u8 0, .int .u8 0, .int .u8 0, .int .u8 0] 23 (0, 0))) = W := ⟨_, rfl⟩
  obtain ⟨q, hq⟩ : ∃ q, w.heap.size = q := ⟨_, rfl⟩
  rw [hW0] at hBk hBz hF ⊢
  rw [hq] at hBk hBz ⊢
  have hP0 := HP.out.fr0 hF
  have hqw : w.heap.size ≤ q + 1 := by omega
  clear hW0 hq
  go_loopw [6] (fun iv wr => ∃ j : Nat, j ≤ i ∧ iv = .int .i64 j ∧ Fr [] W0 wr) (fun iv _ => i - (intOf iv).toNat)
  case atStart => exact ⟨0, by omega, rfl, Fr.refl _ _⟩
  case round =>
    obtain ⟨j, hj, rfl, hG⟩ := hrel
    have hjl : j < s.length := by omega
    have hPr := hP0.fr0 hG
    have hBr := hG.blk hBk (by simp)
    have hZr := hG.blk hBz (by simp)
    have g4 : wr.cell? ⟨g, 4, none⟩ = some (.slice (some ⟨r, 0, none⟩) s.length s.length) := hPr.st.c 4 _ rfl
    have t0 : wr.cell? ⟨q, 0, none⟩ = some (.int .i64 k1) := hBr.c 0 _ rfl
    have t1 : wr.cell? ⟨q, 1, none⟩ = some (.int .i64 k2) := hBr.c 1 _ rfl
    by_cases hlt : j < i
    · have hne := HU.out j hlt
      cases hs : s[j]? with
      | none => rw [List.getElem?_eq_none_iff] at hs; omega
      | some v =>
        cases v with
        | none =>
          have d0 : wr.cell? ⟨r, j * 3, none⟩ = some (.bool false) := hPr.at_ j none hs 0 _ rfl
          clear hPr hBr hZr hs hne
          go_wp2_with fail
          go_quiet (fail)
          have hG2 := hG.drewN nq
          clear g4 t0 t1 d0 hG
          go_wp2_with fail
          go_roundw
          case rel => exact ⟨j + 1, by omega, by go_num, hG2⟩
          case measure => (simp [intOf]) <;> omega
        | some v =>
          obtain ⟨v1, v2⟩ := v
          have d0 : wr.cell? ⟨r, j * 3, none⟩ = some (.bool true) := hPr.at_ j _ hs 0 _ rfl
          have d1 : wr.cell? ⟨r, j * 3 + 1, none⟩ = some (.int .i64 v1) := hPr.at_ j _ hs 1 _ rfl
          have d2 : wr.cell? ⟨r, j * 3 + 2, none⟩ = some (.int .i64 v2) := hPr.at_ j _ hs 2 _ rfl
          have hkk : ((v1, v2) : Ky) ≠ (k1, k2) := fun e => hne (by rw [hs, e])
          have heq : ∀ W, (Op.equalIn 10000 45 (.agg #[.int .i64 v1, .int .i64 v2]) (.agg #[.int .i64 k1, .int .i64 k2])).run Try.prog W = .ok false W := fun W => by
            have := eq_rky (v1, v2) (k1, k2) W
            rwa [decide_eq_false hkk] at this
          clear hPr hBr hZr hs hne hkk
          go_wp2_with fail
          go_quiet (fail)
          have hG2 := hG.drewN nq
          clear g4 t0 t1 d0 d1 d2 hG heq
          go_wp2_with fail
          go_roundw
          case rel => exact ⟨j + 1, by omega, by go_num, hG2⟩
          case measure => (simp [intOf]) <;> omega
    · obtain rfl : j = i := by omega
      have d0 : wr.cell? ⟨r, j * 3, none⟩ = some (.bool true) := hPr.at_ j _ HI.out 0 _ rfl
      have d1 : wr.cell? ⟨r, j * 3 + 1, none⟩ = some (.int .i64 k1) := hPr.at_ j _ HI.out 1 _ rfl
      have d2 : wr.cell? ⟨r, j * 3 + 2, none⟩ = some (.int .i64 k2) := hPr.at_ j _ HI.out 2 _ rfl
      have heq : ∀ W, (Op.equalIn 10000 45 (.agg #[.int .i64 k1, .int .i64 k2]) (.agg #[.int .i64 k1, .int .i64 k2])).run Try.prog W = .ok true W := fun W => by
        have := eq_rky (k1, k2) (k1, k2) W
        rwa [decide_eq_true rfl] at this
      have hPb := hPr.st
      clear hPr hlt
      go_wp2_with fail
      go_quiet (fail)
      have b0' : (wr.drewN nq).cell? ⟨g, 0, none⟩ = some (.int .u8 b0) := (hPb.drewN nq).c 0 _ rfl
      have b1' : (wr.drewN nq).cell? ⟨g, 1, none⟩ = some (.int .u8 b1) := (hPb.drewN nq).c 1 _ rfl
      have b2' : (wr.drewN nq).cell? ⟨g, 2, none⟩ = some (.int .u8 b2) := (hPb.drewN nq).c 2 _ rfl
      have b3' : (wr.drewN nq).cell? ⟨g, 3, none⟩ = some (.int .u8 b3) := (hPb.drewN nq).c 3 _ rfl
      have hZ2 := hZr.drewN nq
      have hG2 := hG.drewN nq
      obtain ⟨W1, hW1⟩ : ∃ W, wr.drewN nq = W := ⟨_, rfl⟩
      rw [hW1] at b0' b1' b2' b3' hZ2 hG2 ⊢
      clear g4 t0 t1 d0 d1 d2 hG heq hPb hZr hBr hW1
      go_wp2_with fail
      refine (HA.out _).mono ?_
      rintro e w2 ⟨rfl, hG3⟩
      have hZ3 := hG3.blk hZ2 (by simp)
      have c0 : w2.cell? ⟨q + 1, 0, none⟩ = some (.int .u8 0) := hZ3.c 0 _ rfl
      have c1 : w2.cell? ⟨q + 1, 1, none⟩ = some (.int .u8 0) := hZ3.c 1 _ rfl
      have c2 : w2.cell? ⟨q + 1, 2, none⟩ = some (.int .u8 0) := hZ3.c 2 _ rfl
      have c3 : w2.cell? ⟨q + 1, 3, none⟩ = some (.int .u8 0) := hZ3.c 3 _ rfl
      have f0 := hZ3.fz 0
      have f1 := hZ3.fz 1
      have f2 := hZ3.fz 2
      have f3 := hZ3.fz 3
      have hF2 := (hF.trans hG2).trans hG3
      clear b0' b1' b2' b3' hZ2 hG2 hG3 HA
      go_wp2_with fail
      have hB4 := (((hZ3.set 0 (.int .u8 e0)).set 1 (.int .u8 e1)).set 2 (.int .u8 e2)).set 3 (.int .u8 e3)
      have hF4 : Fr [] w _ := (((hF2.setNew (p := ⟨q + 1, 0, none⟩) hqw (.int .u8 e0)).setNew (p := ⟨q + 1, 1, none⟩) hqw (.int .u8 e1)).setNew (p := ⟨q + 1, 2, none⟩) hqw (.int .u8 e2)).setNew (p := ⟨q + 1, 3, none⟩) hqw (.int .u8 e3)
      exact ret_cell2 4 5 23 rfl (q + 1) 23 (adr e0 e1 e2 e3) _ hB4 rfl Try.underlying23 rfl (by kernel_rfl) rfl ⟨rfl, hF4⟩
end
end Go.Proofs.Ytnenmgankgadcaa
