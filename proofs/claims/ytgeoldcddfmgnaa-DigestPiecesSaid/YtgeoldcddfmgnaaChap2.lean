/- Digests compared; the answer to a challenge: the program's and the document's. -/
import Derived.Test.YtgeoldcddfmgnaaAlive2
import Derived.Test.YtgeoldcddfmgnaaRMd5
import Derived.Test.YtgeoldcddfmgnaaLowA
import Derived.ChangeKeysEq
namespace Go.Proofs.Ytgeoldcddfmgnaa
open Go.RowKit
set_option linter.unusedVariables false

theorem infoOne : (Try.prog.info? 5).map (·.size) = some 1 := by kernel_rfl
theorem eqByte (x y : Int) (w : World) : (Op.equalIn 9999 5 (.int .u8 x) (.int .u8 y)).run Try.prog w = .ok (x == y) w := by
  have := run_equalIn_int (P := Try.prog) w 9998 5 .u8 .u8 x y Try.underlying5
  simpa using this
theorem eqItems8 (l m : List UInt8) (w : World) : ∀ is : List Nat, (∀ i, i ∈ is → i < l.length ∧ i < m.length) →
    (Op.eqItems 9999 5 1 (arr8 l) (arr8 m) is).run Try.prog w = .ok (is.all fun i => l.getD i 0 == m.getD i 0) w
  | [], _ => by simp [Op.eqItems]
  | i :: is, h => by
    have hi := h i (by simp)
    have ih := eqItems8 l m w is (fun j hj => h j (by simp [hj]))
    have hp : ∀ (xs : List UInt8) (hx : i < xs.length), (part 5 (arr8 xs) (i * 1)).run Try.prog w = .ok (.int .u8 ((xs.getD i 0).toNat : Int)) w := fun xs hx =>
      run_part_plain (P := Try.prog) w (by kernel_rfl) (by
        unfold arr8
        rw [Nat.mul_one, List.getElem?_toArray, List.getElem?_map, List.getElem?_eq_getElem hx, Option.map_some, List.getD, List.getElem?_eq_getElem hx, Option.getD_some])
    have hb : (((l.getD i 0).toNat : Int) == ((m.getD i 0).toNat : Int)) = (l.getD i 0 == m.getD i 0) := by
      rw [Bool.eq_iff_iff, beq_iff_eq, beq_iff_eq]
      constructor
      · intro e; exact UInt8.toNat_inj.1 (by omega)
      · intro e; rw [e]
    simp only [Op.eqItems, Sem.run_bind, hp l hi.1, hp m hi.2, Result.andThen_ok, eqByte, hb]
    cases hc : (l.getD i 0 == m.getD i 0) with
    | false => rw [List.all_cons, hc]; rfl
    | true =>
      simp only [List.all_cons, hc, Bool.not_true, Bool.false_eq_true, if_false, Bool.true_and]
      exact ih
theorem getD_ext (l m : List UInt8) (hl : l.length = m.length) (h : ∀ i, i < l.length → l.getD i 0 = m.getD i 0) : l = m := by
  apply List.ext_getElem hl
  intro i h1 h2
  have := h i h1
  rw [List.getD, List.getD, List.getElem?_eq_getElem h1, List.getElem?_eq_getElem h2] at this
  exact this
def eqB (l m : List UInt8) : Bool := decide (l = m)
theorem eqB_self (l : List UInt8) : eqB l l = true := by simp [eqB]
theorem eq16 (l m : List UInt8) (w : World) (hl : l.length = 16) (hm : m.length = 16) : (Op.equalIn 10000 23 (.agg (arr8 l)) (.agg (arr8 m))).run Try.prog w = .ok (eqB l m) w := by
  obtain ⟨i, hi⟩ : ∃ i, Try.prog.info? 5 = some i := by
    have := infoOne
    cases h : Try.prog.info? 5 with
    | none => rw [h] at this; simp at this
    | some i => exact ⟨i, rfl⟩
  have hc : Try.prog.cellsOf 5 = 1 := by kernel_rfl
  rw [run_equalIn_array w 9999 _ _ Try.underlying23 hi, hc, eqItems8 l m w (List.range 16) (fun j hj => by rw [hl, hm]; exact ⟨List.mem_range.1 hj, List.mem_range.1 hj⟩)]
  congr 1
  unfold eqB
  rw [Bool.eq_iff_iff, List.all_eq_true, decide_eq_true_eq]
  constructor
  · intro h
    exact getD_ext l m (by omega) (fun j hj => by simpa using h j (List.mem_range.2 (by omega)))
  · rintro rfl j _
    simp
theorem rtext_any (l : List UInt8) (w : World) (hl : l.length = 16) :
    Calls Try.prog 19 #[.agg (arr8 l)] w fun e w' => e = .returned (.string (B l)) ∧ Fr [] w w' := by
  have hcv : (convert 46 9 (.slice (some ⟨w.heap.size, 0, none⟩) 16 16)).run Try.prog (w.alloc (.cells (arr8 l) 23)) = .ok (.string (B l)) (w.alloc (.cells (arr8 l) 23)) := by
    rw [arr8_ints]
    have := run_str (P := Try.prog) (w := w.alloc (.cells ((ints8 l).map (Value.int .u8)).toArray 23)) (b := w.heap.size) (cap := 16) Try.underlying46 Try.underlying5 Try.underlying9 (ints8 l) (Blk.new _ _ _) 16 (by simp [ints8, hl])
    rw [this, bytes_ints8]
  have hsl := fun w' => sl16 w.heap.size w'
  have Hl := Lib.hid hl
  clear hl
  go_enter Try.func19, Try.ntmps19
  go_wp2
  go_ret
  exact ⟨rfl, (Fr.refl _ _).alloc _⟩

def chapL (id : Int) (s c : List UInt8) : List UInt8 := bytesOf [id % 256] ++ (s ++ c)
theorem chapL_length (id : Int) (s c : List UInt8) : (chapL id s c).length = s.length + c.length + 1 := by
  unfold chapL
  rw [List.length_append, List.length_append]
  show 1 + _ = _
  omega
theorem chap_any (id : Int) (s c : List UInt8) (w : World) (hs : s.length ≤ 40000) (hc : c.length ≤ 40000) :
    Calls Try.prog 23 #[.int .i64 id, .string (B s), .string (B c)] w fun e w' => e = .returned (.string (B (md5 (chapL id s c)))) ∧ Fr [] w w' := by
  have hcv : ∀ W : World, (convert 46 9 (.slice (some ⟨W.heap.size, 0, none⟩) 1 1)).run Try.prog (W.alloc (.cells #[.int .u8 (id % 256)] 5)) = .ok (.string (B (bytesOf [id % 256]))) (W.alloc (.cells #[.int .u8 (id % 256)] 5)) := fun W => run_str Try.underlying46 Try.underlying5 Try.underlying9 [id % 256] (Blk.new _ _ _) 1 rfl
  have hb1 : (bytesOf [id % 256]).length = 1 := rfl
  have hq1 : ¬ 9223372036854775807 < 1 + s.length := by omega
  have hq2 : ¬ 9223372036854775807 < 1 + s.length + c.length := by omega
  have hq3 : ¬ 9223372036854775807 < s.length + c.length := by omega
  have hq4 : ¬ 9223372036854775807 < 1 + (s.length + c.length) := by omega
  have hL := chapL_length id s c
  have hl : (chapL id s c).length ≤ 100000 := by omega
  have Hl := Lib.hid hl
  clear hL hl
  go_enter Try.func23, Try.ntmps23
  go_wp2_with fail
  refine (md5_any (chapL id s c) _ Hl.out).mono ?_
  rintro e w1 ⟨rfl, hF1⟩
  go_wp2_with fail
  refine (text_any (md5 (chapL id s c)) _ (md5_length _)).mono ?_
  rintro e w2 ⟨rfl, hF2⟩
  go_wp2
  go_ret
  exact ⟨rfl, (((Fr.refl [] w).alloc _).trans hF1).trans hF2⟩
theorem rchap_any (id : Int) (s c : List UInt8) (w : World) (h0 : -9223372036854775808 ≤ id) (h1 : id ≤ 9223372036854775807) (hs : s.length ≤ 40000) (hc : c.length ≤ 40000) :
    Calls Try.prog 24 #[.int .i64 id, .string (B s), .string (B c)] w fun e w' => e = .returned (.string (B (md5 (chapL id s c)))) ∧ Fr [] w w' := by
  have hb1 : (be 1 id).length = 1 := be_length 1 id
  have hq1 : ¬ 9223372036854775807 < 1 + s.length := by omega
  have hq2 : ¬ 9223372036854775807 < 1 + s.length + c.length := by omega
  have hq3 : ¬ 9223372036854775807 < s.length + c.length := by omega
  have hq4 : ¬ 9223372036854775807 < 1 + (s.length + c.length) := by omega
  have hL := chapL_length id s c
  have hl : (chapL id s c).length ≤ 100000 := by omega
  have Hl := Lib.hid hl
  have hi := Lib.hid (And.intro h0 h1)
  clear hL hl h0 h1
  go_enter Try.func24, Try.ntmps24
  go_wp2_with fail
  refine (low_any id 1 _ hi.out (by omega)).mono ?_
  rintro e w0 ⟨rfl, hF0⟩
  go_wp2_with fail
  refine (rmd5_any (chapL id s c) _ Hl.out).mono ?_
  rintro e w1 ⟨rfl, hF1⟩
  go_wp2_with fail
  refine (rtext_any (md5 (chapL id s c)) _ (md5_length _)).mono ?_
  rintro e w2 ⟨rfl, hF2⟩
  go_wp2
  go_ret
  exact ⟨rfl, (hF0.trans hF1).trans hF2⟩
end Go.Proofs.Ytgeoldcddfmgnaa
