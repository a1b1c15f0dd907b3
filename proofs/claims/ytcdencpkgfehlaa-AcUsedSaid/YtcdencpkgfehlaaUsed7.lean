/- ac: a session that is used, step by step. -/
import Derived.Test.YtcdencpkgfehlaaAcU
import Derived.Test.YtcdencpkgfehlaaStep7
namespace Go.Proofs.Ytcdencpkgfehlaa
open Go.RowKit Go.Maps
set_option linter.unusedVariables false
def idEq (x y : Idk) : Bool := mcEq x.1 y.1 && (x.2 == y.2)
theorem idEq_self (x : Idk) : idEq x x = true := by simp [idEq, mcEq_self]
theorem fieldsId : ((Try.prog.fieldsOf 61).toList.map fun f => (decide (f.name ≠ "_"), f.type, f.offset)) = [(true, 28, 0), (true, 3, 6)] := by kernel_rfl
theorem two_of7 {α : Type} (fs : List α) (h : fs.length = 2) : ∃ a b, fs = [a, b] := by
  match fs, h with
  | [a, b], _ => exact ⟨a, b, rfl⟩
theorem eq_id (x y : Idk) (w : World) : (Op.equalIn 10000 61 (.agg (idC x)) (.agg (idC y))).run Try.prog w = .ok (idEq x y) w := by
  rw [run_equalIn_agg w 9999 61 _ _ (by kernel_rfl) (by kernel_rfl)]
  have hF := fieldsId
  generalize (Try.prog.fieldsOf 61).toList = fs at hF ⊢
  have hlen : fs.length = 2 := by have := congrArg List.length hF; simpa using this
  obtain ⟨f1, f2, rfl⟩ := two_of7 fs hlen
  simp only [List.map_cons, List.map_nil, List.cons.injEq, Prod.mk.injEq, decide_eq_true_eq, and_true] at hF
  obtain ⟨⟨a1, a2, a3⟩, b1, b2, b3⟩ := hF
  have p0 : ∀ k : Idk, (part 28 (idC k) 0).run Try.prog w = .ok (.agg (mcL k.1).toArray) w := fun k => part_mac _ 0 k.1 w rfl
  have p1 : ∀ k : Idk, (part 3 (idC k) 6).run Try.prog w = .ok (.int .i64 k.2) w := fun k => run_part_plain (P := Try.prog) w (by kernel_rfl) rfl
  have q0 : ∀ x y, (Op.equalIn 9999 28 (.agg (mcL x).toArray) (.agg (mcL y).toArray)).run Try.prog w = .ok (mcEq x y) w := fun x y => eq_mac 9997 x y w
  have q1 : ∀ x y : Int, (Op.equalIn 9999 3 (.int .i64 x) (.int .i64 y)).run Try.prog w = .ok (x == y) w := fun x y => run_equalIn_int (P := Try.prog) w 9998 3 .i64 .i64 x y Try.underlying3
  unfold idEq
  simp only [Op.eqFields, a1, a2, a3, b1, b2, b3, ne_eq, not_false_eq_true, if_true, Sem.run_bind, p0, q0, Result.andThen_ok]
  cases mcEq x.1 y.1
  · simp [Result.andThen]
  simp only [Bool.not_true, Bool.false_eq_true, if_false, Sem.run_bind, p1, q1, Result.andThen_ok, Bool.true_and]
  cases (x.2 == y.2) <;> simp [Result.andThen]
/-- a row of one name -/
theorem idrow_of {w : World} {va : Value} {k : Idk} (h : w.ownsRow 0 61 7 va 1 (idL k)) : ∃ q cap, va = .slice (some ⟨q, 0, none⟩) 1 cap ∧ 1 ≤ cap ∧ cap ≤ maxLen ∧ (∃ cur, Blk w q cur 61) ∧ ∀ c v, (idL k)[c]? = some v → w.cell? ⟨q, c, none⟩ = some v := by
  obtain ⟨A, cap, rfl⟩ := own_slice h
  have hc := own_caps h
  obtain ⟨g, cap', hv, hg, hlt⟩ := h.form (by omega)
  cases hv
  refine ⟨g, _, rfl, hc.1, hc.2, ?_, fun c v hcv => ?_⟩
  · exact own_blk h g rfl
  · have hl := (List.getElem?_eq_some_iff.1 hcv).1
    have h7 : (idL k).length = 7 := rfl
    rw [h.cellAt c (by omega)]
    exact hcv
def cnV (xa xb : Nat) (last : Int) : Cn := ⟨⟨9, 0, 0, 0, 0, 0⟩, [97, 99], [115], .slice none 0 0, 5, xa, xb, last, .slice none 0 0⟩
section
variable {w : World} {g xa xb : Nat}
theorem use1 (h : Mc) (hh : McOk h) (hne : h ≠ mc9) (hC : CnIs w g (cnV xa xb 0) [] []) :
    Calls Try.prog 24 #[.pointer (some ⟨g, 0, none⟩), .agg (ethC mc9 h 34915 (discB 25 0 (tgsB (padT h [117])))), .int .i64 6] w fun e w' => (∃ q, e = .returned (.slice (some ⟨q, 0, none⟩) 1 1)) ∧ (∃ p, w.heap.size ≤ p ∧ CnIs w' g (cnV xa xb 1) [⟨h, 1, [117], false, p⟩] []) ∧ Fr [g, xa, xb] w w' := by
  refine (take_step h [117] hh hne (by simp) rfl rfl hC (by unfold cnV; simp) (by simp) (by unfold cnV; simp)).mono ?_
  rintro e w' ⟨q, d, he, _, _, ⟨s, hs, _⟩ | ⟨_, hf, _⟩ | ⟨_, _, _, p, hp, hCn, hF⟩⟩
  · cases hs
  · unfold cnV ofCard at hf; simp at hf
  · exact ⟨⟨q, he⟩, ⟨p, hp, hCn⟩, hF⟩
theorem use2 {p : Nat} (h : Mc) (hh : McOk h) (hne : h ≠ mc9) (hC : CnIs w g (cnV xa xb 1) [⟨h, 1, [117], true, p⟩] []) :
    Calls Try.prog 24 #[.pointer (some ⟨g, 0, none⟩), .agg (ethC mc9 h 34915 (discB 25 0 (tgsB (padT h [117])))), .int .i64 6] w fun e w' => (∃ q, e = .returned (.slice (some ⟨q, 0, none⟩) 1 1)) ∧ (∃ p2, CnIs w' g (cnV xa xb 2) [⟨h, 1, [117], true, p⟩, ⟨h, 2, [117], false, p2⟩] []) ∧ Fr [g, xa, xb] w w' := by
  refine (take_step h [117] hh hne (by simp) rfl rfl hC (by unfold cnV; simp) (by simp) (by unfold cnV; simp)).mono ?_
  rintro e w' ⟨q, d, he, _, _, ⟨s, hs, hf, _⟩ | ⟨_, hf, _⟩ | ⟨_, _, _, p2, hp, hCn, hF⟩⟩
  · simp at hs
    subst hs
    have := hf.2.2
    simp at this
  · unfold cnV ofCard at hf; simp at hf
  · exact ⟨⟨q, he⟩, ⟨p2, hCn⟩, hF⟩
theorem use3 {p2 : Nat} (h o : Mc) (ho : McOk o) (hne : o ≠ mc9) (hoh : o ≠ h) (hC : CnIs w g (cnV xa xb 2) [⟨h, 2, [117], false, p2⟩] []) :
    Calls Try.prog 24 #[.pointer (some ⟨g, 0, none⟩), .agg (ethC mc9 o 34915 (discB 25 0 (tgsB (padT o [117])))), .int .i64 6] w fun e w' => (∃ v, e = .returned v) ∧ (∃ p3, CnIs w' g (cnV xa xb 3) [⟨h, 2, [117], false, p2⟩, ⟨o, 3, [117], false, p3⟩] []) ∧ Fr [g, xa, xb] w w' := by
  refine (take_step o [117] ho hne (by simp) rfl rfl hC (by unfold cnV; simp) (by simp) (by unfold cnV; simp)).mono ?_
  rintro e w' ⟨q, d, he, _, _, ⟨s, hs, hf, _⟩ | ⟨_, hf, _⟩ | ⟨_, _, _, p3, hp, hCn, hF⟩⟩
  · simp at hs
    subst hs
    exact absurd hf.1.symm hoh
  · have hx : decide (h = o) = false := decide_eq_false fun e => hoh e.symm
    unfold cnV ofCard at hf
    simp [hx] at hf
  · exact ⟨⟨_, he⟩, ⟨p3, hCn⟩, hF⟩
theorem use3o {p2 : Nat} (h : Mc) (d : List UInt8) (hC : CnIs w g (cnV xa xb 2) [⟨h, 2, [117], false, p2⟩] []) :
    Calls Try.prog 24 #[.pointer (some ⟨g, 0, none⟩), .agg (ethC mc9 mc9 34915 d), .int .i64 6] w fun e w' => (∃ v, e = .returned v) ∧ CnIs w' g (cnV xa xb 2) [⟨h, 2, [117], false, p2⟩] [] ∧ Fr [g, xa, xb] w w' := by
  refine (take_own (c := cnV xa xb 2) mc9 d 6 hC).mono fun e w' ⟨he, hF⟩ => ?_
  exact ⟨⟨_, he⟩, hC.fr0 hF, hF.mono (by simp)⟩
theorem useD {p : Nat} (h : Mc) (hh : McOk h) (d : List UInt8) (hd : d.length ≤ 1494) (hC : CnIs w g (cnV xa xb 1) [⟨h, 1, [117], false, p⟩] []) :
    Calls Try.prog 31 #[.pointer (some ⟨g, 0, none⟩), .agg (ethC mc9 h 34916 (discB 0 1 d))] w fun e w' => e = .returned (.tuple #[.agg (idC (h, 1)), .string (B d), .bool true]) ∧ CnIs w' g (cnV xa xb 1) [⟨h, 1, [117], true, p⟩] [] ∧ Fr [p] w w' :=
  data_yes (c := cnV xa xb 1) ⟨h, 1, [117], false, p⟩ d ⟨hh, by unfold In64; simp⟩ (by simp) (by simp) hd hC
theorem useN {p : Nat} (h o : Mc) (ho : McOk o) (hoh : o ≠ h) (d : List UInt8) (hd : d.length ≤ 1494) (hC : CnIs w g (cnV xa xb 1) [⟨h, 1, [117], true, p⟩] []) :
    Calls Try.prog 31 #[.pointer (some ⟨g, 0, none⟩), .agg (ethC mc9 o 34916 (discB 0 1 d))] w fun e w' => e = .returned (.tuple #[.agg #[.int .u8 0, .int .u8 0, .int .u8 0, .int .u8 0, .int .u8 0, .int .u8 0, .int .i64 0], .string ⟨#[]⟩, .bool false]) ∧ CnIs w' g (cnV xa xb 1) [⟨h, 1, [117], true, p⟩] [] ∧ Fr [] w w' :=
  (data_no (c := cnV xa xb 1) o 1 d (fun s hs hk => by
    simp at hs
    subst hs
    simp [kv] at hk
    exact hoh hk.symm) ⟨ho, by unfold In64; simp⟩ (by simp) (by simp) hd hC).mono fun e w' ⟨he, hF⟩ => ⟨he, hC.fr0 hF, hF⟩
theorem useC {p p2 : Nat} (h : Mc) (hh : McOk h) (hC : CnIs w g (cnV xa xb 2) [⟨h, 1, [117], true, p⟩, ⟨h, 2, [117], false, p2⟩] []) :
    Calls Try.prog 32 #[.pointer (some ⟨g, 0, none⟩), .agg (idC (h, 1))] w fun e w' => ∃ q d va, e = .returned (.tuple #[.slice (some ⟨q, 0, none⟩) 1 1, .int .i64 0]) ∧ w.heap.size ≤ q ∧ Blk w' q (ethC h mc9 34915 d) 35 ∧ CnIs w' g { cnV xa xb 2 with gone := va } [⟨h, 2, [117], false, p2⟩] [(h, 1)] ∧ Fr [g, xa, xb] w w' := by
  refine (close_ok (c := cnV xa xb 2) ⟨h, 1, [117], true, p⟩ (by simp) ⟨hh, by unfold In64; simp⟩ (by simp) (by simp) (by simp) hC).mono ?_
  rintro e w' ⟨q, d, va, he, hq, hB, hCn, _, hF⟩
  exact ⟨q, d, va, he, hq, hB, by simpa [dropS] using hCn, hF⟩
theorem useG {p2 : Nat} {va : Value} (h : Mc) (hC : CnIs w g { cnV xa xb 2 with gone := va } [⟨h, 2, [117], false, p2⟩] [(h, 1)]) :
    Calls Try.prog 33 #[.pointer (some ⟨g, 0, none⟩)] w fun e w' => ∃ q cap, e = .returned (.slice (some ⟨q, 0, none⟩) 1 cap) ∧ 1 ≤ cap ∧ CnIs w' g (cnV xa xb 2) [⟨h, 2, [117], false, p2⟩] [] ∧ (∀ W, Fr [g, xa, xb] w' W → ∀ c v, (idL (h, 1))[c]? = some v → W.cell? ⟨q, c, none⟩ = some v) ∧ Fr [g] w w' := by
  refine (gone_ok hC).mono ?_
  rintro e w' ⟨he, hCn, hr, hF⟩
  have hr' : w'.ownsRow 0 61 7 va 1 (idL (h, 1)) := by simpa using hr
  obtain ⟨q, cap, rfl, h1, h2, ⟨cur, hB⟩, hc⟩ := idrow_of hr'
  refine ⟨q, cap, he, h1, hCn, fun W hW c v hcv => ?_, hF⟩
  have hq : q ∉ [g, xa, xb] := by
    have a1 := hB.ne_type hCn.st (by decide)
    have a2 := hCn.hM.not_blk hB
    have a3 := hCn.tM.not_blk hB
    simp only [List.mem_cons, List.not_mem_nil, or_false, not_or]
    exact ⟨a1, a2, a3⟩
  rw [World.cell?_of_block (hW.block q hB.lt hq)]
  exact hc c v hcv
end
end Go.Proofs.Ytcdencpkgfehlaa
