/- Arrays of sixteen bytes compared. -/
import Derived.Test.YtgkibgglalginaaBook14
import Derived.ChangeKeysEq
namespace Go.Proofs.Ytgkibgglalginaa
open Go.RowKit
set_option linter.unusedVariables false

theorem infoOne : (Try.prog.info? 5).map (·.size) = some 1 := by kernel_rfl
theorem eqByte (x y : Int) (w : World) : (Op.equalIn 9999 5 (.int .u8 x) (.int .u8 y)).run Try.prog w = .ok (x == y) w := by
  have := run_equalIn_int (P := Try.prog) w 9998 5 .u8 .u8 x y Try.underlying5
  simpa using this
theorem eqItems8 (l m : List UInt8) (w : World) : ∀ is : List Nat, (∀ i, i ∈ is → i < l.length ∧ i < m.length) →
    (Op.eqItems 9999 5 1 (arr8 l) (arr8 m) is).run Try.prog w = .ok (is.all fun i => l.getD i 0 == m.getD i 0) w
  | [], _ => by simp [Op.eqItems]
  | i :: is, h => by
    have hi := h i (by simp)
    have ih := eqItems8 l m w is (fun j hj => h j (by simp [hj]))
    have hp : ∀ (xs : List UInt8) (hx : i < xs.length), (part 5 (arr8 xs) (i * 1)).run Try.prog w = .ok (.int .u8 ((xs.getD i 0).toNat : Int)) w := fun xs hx =>
      run_part_plain (P := Try.prog) w (by kernel_rfl) (by
        unfold arr8
        rw [Nat.mul_one, List.getElem?_toArray, List.getElem?_map, List.getElem?_eq_getElem hx, Option.map_some, List.getD, List.getElem?_eq_getElem hx, Option.getD_some])
    have hb : (((l.getD i 0).toNat : Int) == ((m.getD i 0).toNat : Int)) = (l.getD i 0 == m.getD i 0) := by
      rw [Bool.eq_iff_iff, beq_iff_eq, beq_iff_eq]
      constructor
      · intro e; exact UInt8.toNat_inj.1 (by omega)
      · intro e; rw [e]
    simp only [Op.eqItems, Sem.run_bind, hp l hi.1, hp m hi.2, Result.andThen_ok, eqByte, hb]
    cases hc : (l.getD i 0 == m.getD i 0) with
    | false => rw [List.all_cons, hc]; rfl
    | true =>
      simp only [List.all_cons, hc, Bool.not_true, Bool.false_eq_true, if_false, Bool.true_and]
      exact ih
theorem getD_ext (l m : List UInt8) (hl : l.length = m.length) (h : ∀ i, i < l.length → l.getD i 0 = m.getD i 0) : l = m := by
  apply List.ext_getElem hl
  intro i h1 h2
  have := h i h1
  rw [List.getD, List.getD, List.getElem?_eq_getElem h1, List.getElem?_eq_getElem h2] at this
  exact this
def eqB (l m : List UInt8) : Bool := decide (l = m)
theorem eqB_self (l : List UInt8) : eqB l l = true := by simp [eqB]
theorem eq16 (l m : List UInt8) (w : World) (hl : l.length = 16) (hm : m.length = 16) : (Op.equalIn 10000 50 (.agg (arr8 l)) (.agg (arr8 m))).run Try.prog w = .ok (eqB l m) w := by
  obtain ⟨i, hi⟩ : ∃ i, Try.prog.info? 5 = some i := by
    have := infoOne
    cases h : Try.prog.info? 5 with
    | none => rw [h] at this; simp at this
    | some i => exact ⟨i, rfl⟩
  have hc : Try.prog.cellsOf 5 = 1 := by kernel_rfl
  rw [run_equalIn_array w 9999 _ _ Try.underlying50 hi, hc, eqItems8 l m w (List.range 16) (fun j hj => by rw [hl, hm]; exact ⟨List.mem_range.1 hj, List.mem_range.1 hj⟩)]
  congr 1
  unfold eqB
  rw [Bool.eq_iff_iff, List.all_eq_true, decide_eq_true_eq]
  constructor
  · intro h
    exact getD_ext l m (by omega) (fun j hj => by simpa using h j (List.mem_range.2 (by omega)))
  · rintro rfl j _
    simp
theorem eqB_refl (l : List UInt8) (h : l.length = 16) (w : World) : (Op.equalIn 10000 50 (.agg (arr8 l)) (.agg (arr8 l))).run Try.prog w = .ok true w := by
  rw [eq16 l l w h h, show eqB l l = true by simp [eqB]]
end Go.Proofs.Ytgkibgglalginaa
