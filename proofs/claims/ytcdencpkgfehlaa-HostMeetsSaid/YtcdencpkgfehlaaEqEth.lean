/- cards and frames compared. -/
import Derived.Test.YtcdencpkgfehlaaMgC
import Derived.ChangeKeysEq
namespace Go.Proofs.Ytcdencpkgfehlaa
open Go.RowKit
set_option linter.unusedVariables false
theorem Fr.fresh1 {w a b : World} {g : Nat} (h : Fr [] w a) (k : Fr [g] a b) (hg : w.heap.size ≤ g) : Fr [] w b := h.sub k (by intro x hx; simp at hx; subst hx; exact Or.inr hg)
def mcEq (x y : Mc) : Bool := (x.a == y.a) && ((x.b == y.b) && ((x.c == y.c) && ((x.d == y.d) && ((x.e == y.e) && (x.f == y.f)))))
theorem mcEq_self (x : Mc) : mcEq x x = true := by simp [mcEq]
theorem mcEq_iff (x y : Mc) : mcEq x y = true ↔ x = y := by
  obtain ⟨a, b, c, d, e, f⟩ := x
  obtain ⟨a', b', c', d', e', f'⟩ := y
  simp [mcEq]
theorem infoOne : (Try.prog.info? 5).map (·.size) = some 1 := by kernel_rfl
theorem infoMac : (Try.prog.info? 28).map (·.size) = some 6 := by kernel_rfl
theorem eq_mac (n : Nat) (x y : Mc) (w : World) : (Op.equalIn (n + 2) 28 (.agg (mcL x).toArray) (.agg (mcL y).toArray)).run Try.prog w = .ok (mcEq x y) w := by
  have eqByte : ∀ (x y : Int), (Op.equalIn (n + 1) 5 (.int .u8 x) (.int .u8 y)).run Try.prog w = .ok (x == y) w := fun x y => run_equalIn_int (P := Try.prog) w n 5 .u8 .u8 x y Try.underlying5
  obtain ⟨i, hi⟩ : ∃ i, Try.prog.info? 5 = some i := by
    have := infoOne
    cases h : Try.prog.info? 5 with
    | none => rw [h] at this; simp at this
    | some i => exact ⟨i, rfl⟩
  have hc : Try.prog.cellsOf 5 = 1 := by kernel_rfl
  obtain ⟨a, b, c, d, e, f⟩ := x
  obtain ⟨a', b', c', d', e', f'⟩ := y
  have hp : ∀ (v : Mc) (j : Nat) (z : Int), (mcL v).toArray[j]? = some (.int .u8 z) → (part 5 (mcL v).toArray j).run Try.prog w = .ok (.int .u8 z) w := fun v j z hz =>
    run_part_plain (P := Try.prog) w (by kernel_rfl) hz
  rw [run_equalIn_array w (n + 1) _ _ Try.underlying28 hi, hc]
  rw [show List.range 6 = [0, 1, 2, 3, 4, 5] from rfl]
  unfold mcEq
  have h1 := hp ⟨a, b, c, d, e, f⟩ 1 b rfl
  have h2 := hp ⟨a, b, c, d, e, f⟩ 2 c rfl
  have h3 := hp ⟨a, b, c, d, e, f⟩ 3 d rfl
  have h4 := hp ⟨a, b, c, d, e, f⟩ 4 e rfl
  have h5 := hp ⟨a, b, c, d, e, f⟩ 5 f rfl
  have k1 := hp ⟨a', b', c', d', e', f'⟩ 1 b' rfl
  have k2 := hp ⟨a', b', c', d', e', f'⟩ 2 c' rfl
  have k3 := hp ⟨a', b', c', d', e', f'⟩ 3 d' rfl
  have k4 := hp ⟨a', b', c', d', e', f'⟩ 4 e' rfl
  have k5 := hp ⟨a', b', c', d', e', f'⟩ 5 f' rfl
  simp only [Op.eqItems, Nat.mul_one, Sem.run_bind, hp _ 0 _ rfl, Result.andThen_ok, eqByte]
  cases (a == a')
  · simp [Result.andThen]
  simp only [Bool.not_true, Bool.false_eq_true, if_false, Sem.run_bind, h1, k1, Result.andThen_ok, eqByte, Bool.true_and]
  cases (b == b')
  · simp [Result.andThen]
  simp only [Bool.not_true, Bool.false_eq_true, if_false, Sem.run_bind, h2, k2, Result.andThen_ok, eqByte, Bool.true_and]
  cases (c == c')
  · simp [Result.andThen]
  simp only [Bool.not_true, Bool.false_eq_true, if_false, Sem.run_bind, h3, k3, Result.andThen_ok, eqByte, Bool.true_and]
  cases (d == d')
  · simp [Result.andThen]
  simp only [Bool.not_true, Bool.false_eq_true, if_false, Sem.run_bind, h4, k4, Result.andThen_ok, eqByte, Bool.true_and]
  cases (e == e')
  · simp [Result.andThen]
  simp only [Bool.not_true, Bool.false_eq_true, if_false, Sem.run_bind, h5, k5, Result.andThen_ok, eqByte, Bool.true_and]
  cases (f == f') <;> simp [Result.andThen]
theorem part_mac (xs : Array Value) (off : Nat) (m : Mc) (w : World) (h : xs.extract off (off + 6) = (mcL m).toArray) : (part 28 xs off).run Try.prog w = .ok (.agg (mcL m).toArray) w := by
  obtain ⟨i, hi⟩ : ∃ i, Try.prog.info? 28 = some i := by
    have := infoMac
    cases h : Try.prog.info? 28 with
    | none => rw [h] at this; simp at this
    | some i => exact ⟨i, rfl⟩
  have hc : Try.prog.cellsOf 28 = 6 := by kernel_rfl
  simp [part, isAgg, run_underlying Try.underlying28, run_sizeOf w hi, hc, h, Sem.run_bind, Result.andThen]
def ethEq (k m : Mc) (ty : Int) (d : List UInt8) (k' m' : Mc) (ty' : Int) (d' : List UInt8) : Bool := mcEq k k' && (mcEq m m' && ((ty == ty') && decide (d = d')))
theorem ethEq_self (k m : Mc) (ty : Int) (d : List UInt8) : ethEq k m ty d k m ty d = true := by simp [ethEq, mcEq_self]
theorem fieldsEth : ((Try.prog.fieldsOf 35).toList.map fun f => (decide (f.name ≠ "_"), f.type, f.offset)) = [(true, 28, 0), (true, 28, 6), (true, 3, 12), (true, 9, 13)] := by kernel_rfl
theorem str_dec (x y : List UInt8) : ((B x).toList == (B y).toList) = decide (x = y) := by rw [B_toList, B_toList, Bool.eq_iff_iff]; simp
theorem four_of {α : Type} (fs : List α) (h : fs.length = 4) : ∃ a b c d, fs = [a, b, c, d] := by
  match fs, h with
  | [a, b, c, d], _ => exact ⟨a, b, c, d, rfl⟩
theorem eq_eth (k m : Mc) (ty : Int) (d : List UInt8) (k' m' : Mc) (ty' : Int) (d' : List UInt8) (w : World) :
    (Op.equalIn 10000 35 (.agg (ethC k m ty d)) (.agg (ethC k' m' ty' d'))).run Try.prog w = .ok (ethEq k m ty d k' m' ty' d') w := by
  rw [run_equalIn_agg w 9999 35 _ _ (by kernel_rfl) (by kernel_rfl)]
  have hF := fieldsEth
  generalize (Try.prog.fieldsOf 35).toList = fs at hF ⊢
  have hlen : fs.length = 4 := by have := congrArg List.length hF; simpa using this
  obtain ⟨f1, f2, f3, f4, rfl⟩ := four_of fs hlen
  simp only [List.map_cons, List.map_nil, List.cons.injEq, Prod.mk.injEq, decide_eq_true_eq, and_true] at hF
  obtain ⟨⟨a1, a2, a3⟩, ⟨b1, b2, b3⟩, ⟨c1, c2, c3⟩, d1, d2, d3⟩ := hF
  have p0 : ∀ k m ty d, (part 28 (ethC k m ty d) 0).run Try.prog w = .ok (.agg (mcL k).toArray) w := fun k m ty d => part_mac _ 0 k w rfl
  have p1 : ∀ k m ty d, (part 28 (ethC k m ty d) 6).run Try.prog w = .ok (.agg (mcL m).toArray) w := fun k m ty d => part_mac _ 6 m w rfl
  have p2 : ∀ k m ty d, (part 3 (ethC k m ty d) 12).run Try.prog w = .ok (.int .i64 ty) w := fun k m ty d => run_part_plain (P := Try.prog) w (by kernel_rfl) rfl
  have p3 : ∀ k m ty d, (part 9 (ethC k m ty d) 13).run Try.prog w = .ok (.string (B d)) w := fun k m ty d => run_part_plain (P := Try.prog) w (by kernel_rfl) rfl
  have q0 : ∀ x y, (Op.equalIn 9999 28 (.agg (mcL x).toArray) (.agg (mcL y).toArray)).run Try.prog w = .ok (mcEq x y) w := fun x y => eq_mac 9997 x y w
  have q2 : ∀ x y : Int, (Op.equalIn 9999 3 (.int .i64 x) (.int .i64 y)).run Try.prog w = .ok (x == y) w := fun x y => run_equalIn_int (P := Try.prog) w 9998 3 .i64 .i64 x y Try.underlying3
  have q3 : ∀ x y : List UInt8, (Op.equalIn 9999 9 (.string (B x)) (.string (B y))).run Try.prog w = .ok (decide (x = y)) w := fun x y => by
    rw [← str_dec x y]
    exact run_equalIn_string (P := Try.prog) w 9998 9 (B x) (B y) Try.underlying9
  unfold ethEq
  simp only [Op.eqFields, a1, a2, a3, b1, b2, b3, c1, c2, c3, d1, d2, d3, ne_eq, not_false_eq_true, if_true, Sem.run_bind, p0, q0, Result.andThen_ok]
  cases mcEq k k'
  · simp [Result.andThen]
  simp only [Bool.not_true, Bool.false_eq_true, if_false, Sem.run_bind, p1, q0, Result.andThen_ok, Bool.true_and]
  cases mcEq m m'
  · simp [Result.andThen]
  simp only [Bool.not_true, Bool.false_eq_true, if_false, Sem.run_bind, p2, q2, Result.andThen_ok, Bool.true_and]
  cases (ty == ty')
  · simp [Result.andThen]
  simp only [Bool.not_true, Bool.false_eq_true, if_false, Sem.run_bind, p3, q3, Result.andThen_ok, Bool.true_and]
  cases (decide (d = d')) <;> simp [Result.andThen]
end Go.Proofs.Ytcdencpkgfehlaa
